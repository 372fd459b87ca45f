/- Part of one proof. There are no conditions. -/
import Derived.Test.YtkaiilmgemaljaaGreatYD14
set_option maxHeartbeats 0
set_option linter.unusedVariables false
set_option linter.unusedSimpArgs false
set_option maxRecDepth 100000
namespace Go.Proofs.YtkaiilmgemaljaaGreat
open Go.RowKit
def CubP:RP:=fun v _=>∃m o,v = .agg #[.int .i64 m,.int .i64 o]/\0<=m/\m<=2048/\-1<=o/\o<=3
def dsC16:Nat->Nat
 | 0=>10
 | 1=>11
 | 2=>12
 | 3=>13
 | 4=>14
 | 5=>15
 | 6=>16
 | 7=>17
 | 8=>18
 | _=>0
def Dbl5 (k:Nat) (v:Int):Prop:=k<=5/\1<=v/\v<=32/\(1<=k->v<=16)/\(2<=k->v<=8)/\(3<=k->v<=4)/\(4<=k->v<=2)/\(5<=k->v<=1)
theorem l16Draw_any (g:Nat) (C:Option Addr) (n c:Nat) (bs:List Int) (m:Int) (b j:Bool) (W:World) (hs:SomG g C n c bs W):
  Calls Tryz.prog 185 #[.pointer (some ⟨g,0,none⟩),.agg #[.int .i64 m,.bool b,.bool j]] W (RetGC g C n c bs W):=by
 have hg:=hs.lt
 have HF0:Hid (FrS (fun j=>j=g) W ((W.alloc (.cells #[.int .i64 m,.bool b,.bool j] 53)).alloc (.cells #[.int .i64 0,.int .i64 0] 55)) [[.int .i64 m,.bool b,.bool j],[.int .i64 0,.int .i64 0]]):=((FrS.start W (fun k hk=>by rw[hk];exact hg)).allocT (by simp) _ _).allocT (by simp) _ _
 have HS0:=h_ ((hs.alloc (.cells #[.int .i64 m,.bool b,.bool j] 53)).alloc (.cells #[.int .i64 0,.int .i64 0] 55));clear hs
 go_enter Tryz.func185,Tryz.ntmps185
 go_wp2_with (fail)
 refine (aC HS0.out (k:=12) (by omega)).mono ?_
 rintro e w1 ⟨k0,rfl,lx1,ux1,hs,hf⟩
 have HS1:=h_ hs;have HF1:=h_ (HF0.out.frm hf);clear hs hf HS0 HF0
 by_cases h0:k0=0
 ·have b0:(k0 == 0)=true:=by simp[h0]
  clear h0
  go_wp2_with (fail)
  generalize w1=V at *;have HSV:=HS1;have hlo:g<V.heap.size:=HS1.out.lt
  refine bN 9 (fun _=>false) dsC16 (Frm (fun j=>j=g)) (SomG g C n c bs) (GL [SliP V.heap.size 6 [0,1,2,3,4,2048],Eqv (.pointer (some ⟨g,0,none⟩)),IntP (fun x=>0<=x/\(x<6\/x=0)),AdrP V.heap.size [0,1,2,3,4,2048],IntP (fun x=>0<=x/\x<=2048),Eqv (.pointer (some ⟨g,0,none⟩)),IntP (fun x=>0<=x/\(x<5\/x=0)),IntP (fun x=>-1<=x/\x<=3),CubP]) rfl (by kernel_rfl) (fun _ _ _ _ _ h=>h) (fun _ _ _ h1 h2=>h1.trans h2) (fun a=>Frm.refl _ a) (GL.stabG (AllG.cons (stg_sli hlo _ _) (AllG.cons (iU _ _) (AllG.cons (cY _ _) (AllG.cons (stg_adr hlo _) (AllG.cons (cY _ _) (AllG.cons (iU _ _) (AllG.cons (cY _ _) (AllG.cons (cY _ _) (AllG.cons ((fun _ _ _ h _=>h)) (AllG.nil))))))))))) ((Frm.refl _ _).drew) (HSV.out.frm (O:=fun _=>False) ((Frm.refl _ _).drew) (fun _ h=>h.elim)) (fun i o' _ hX=>by cases hX) ?_ ?_
  ·intro i o' hi _ ho a' W3 hW hIW hfar hdep
   have e0:a'.tmps.getD 0 undef = .pointer (some ⟨g,0,none⟩):=(hfar 0 (by decide)).trans rfl
   have dep:∀j,j<9->Region.waitsFor .any _ i j=true->GL [SliP V.heap.size 6 [0,1,2,3,4,2048],Eqv (.pointer (some ⟨g,0,none⟩)),IntP (fun x=>0<=x/\(x<6\/x=0)),AdrP V.heap.size [0,1,2,3,4,2048],IntP (fun x=>0<=x/\x<=2048),Eqv (.pointer (some ⟨g,0,none⟩)),IntP (fun x=>0<=x/\(x<5\/x=0)),IntP (fun x=>-1<=x/\x<=3),CubP] j (a'.tmps.getD (dsC16 j) undef) W3:=hdep
   have hVW:V.heap.size<=W3.heap.size:=hW.size
   have hi8:i=0\/i=1\/i=2\/i=3\/i=4\/i=5\/i=6\/i=7\/i=8:=by omega
   clear hfar hdep hi
   rcases hi8 with rfl|rfl|rfl|rfl|rfl|rfl|rfl|rfl|rfl
   all_goals (simp at ho;subst ho)
   ·exact .inl ⟨.slice (some ⟨W3.heap.size,0,none⟩) 6 6,W3.alloc (.cells #[.int .i64 (0),.int .i64 (1),.int .i64 (2),.int .i64 (3),.int .i64 (4),.int .i64 (2048)] 2),by kernel_rfl,(Frm.refl _ _).alloc _,hIW.alloc _,⟨_,rfl,hVW,Cel.new W3 #[.int .i64 (0),.int .i64 (1),.int .i64 (2),.int .i64 (3),.int .i64 (4),.int .i64 (2048)] _⟩⟩
   ·exact .inl ⟨.pointer (some ⟨g,0,none⟩),W3,by simp only[execOp,Act.eval,e0];go_simp,Frm.refl _ _,hIW,rfl⟩
   ·have d1:a'.tmps.getD 11 undef = .pointer (some ⟨g,0,none⟩):=dep 1 (by omega) (by kernel_rfl)
    refine .inr ⟨154,#[.pointer (some ⟨g,0,none⟩),.int .i64 6],by simp only[execOp,Act.eval,d1];go_simp,?_⟩
    refine (aC hIW (k:=6) (by omega)).mono ?_
    rintro e W' ⟨x,rfl,hx1,hx2,hs',hf'⟩
    exact⟨_,rfl,hf',hs',⟨x,rfl,hx1,hx2⟩⟩
   ·obtain⟨b,d1,hb,hc⟩:SliP V.heap.size 6 [0,1,2,3,4,2048] (a'.tmps.getD 10 undef) W3:=dep 0 (by omega) (by kernel_rfl)
    obtain⟨x,d2,hx1,hx2⟩:IntP (fun x=>0<=x/\(x<6\/x=0)) (a'.tmps.getD 12 undef) W3:=dep 2 (by omega) (by kernel_rfl)
    have hxx:x=0\/x=1\/x=2\/x=3\/x=4\/x=5:=by omega
    rcases hxx with rfl|rfl|rfl|rfl|rfl|rfl
    ·exact .inl ⟨.pointer (some ⟨b,0,none⟩),W3,by simp only[execOp,Act.eval,d1,d2];go_simp,Frm.refl _ _,hIW,⟨b,0,rfl,hb,by decide,hc⟩⟩
    ·exact .inl ⟨.pointer (some ⟨b,1,none⟩),W3,by simp only[execOp,Act.eval,d1,d2];go_simp,Frm.refl _ _,hIW,⟨b,1,rfl,hb,by decide,hc⟩⟩
    ·exact .inl ⟨.pointer (some ⟨b,2,none⟩),W3,by simp only[execOp,Act.eval,d1,d2];go_simp,Frm.refl _ _,hIW,⟨b,2,rfl,hb,by decide,hc⟩⟩
    ·exact .inl ⟨.pointer (some ⟨b,3,none⟩),W3,by simp only[execOp,Act.eval,d1,d2];go_simp,Frm.refl _ _,hIW,⟨b,3,rfl,hb,by decide,hc⟩⟩
    ·exact .inl ⟨.pointer (some ⟨b,4,none⟩),W3,by simp only[execOp,Act.eval,d1,d2];go_simp,Frm.refl _ _,hIW,⟨b,4,rfl,hb,by decide,hc⟩⟩
    ·exact .inl ⟨.pointer (some ⟨b,5,none⟩),W3,by simp only[execOp,Act.eval,d1,d2];go_simp,Frm.refl _ _,hIW,⟨b,5,rfl,hb,by decide,hc⟩⟩
   ·obtain⟨b,j,d1,hb,hj,hc⟩:AdrP V.heap.size [0,1,2,3,4,2048] (a'.tmps.getD 13 undef) W3:=dep 3 (by omega) (by kernel_rfl)
    have hjj:j=0\/j=1\/j=2\/j=3\/j=4\/j=5:=by simp only[List.length_cons,List.length_nil]at hj;omega
    rcases hjj with rfl|rfl|rfl|rfl|rfl|rfl
    ·have y0:W3.cell? ⟨b,0,none⟩=some (.int .i64 (0)):=hc.cell 0 _ rfl
     exact .inl ⟨.int .i64 (0),W3,by simp only[execOp,Act.eval,d1];go_simp,Frm.refl _ _,hIW,⟨_,rfl,by decide⟩⟩
    ·have y0:W3.cell? ⟨b,1,none⟩=some (.int .i64 (1)):=hc.cell 1 _ rfl
     exact .inl ⟨.int .i64 (1),W3,by simp only[execOp,Act.eval,d1];go_simp,Frm.refl _ _,hIW,⟨_,rfl,by decide⟩⟩
    ·have y0:W3.cell? ⟨b,2,none⟩=some (.int .i64 (2)):=hc.cell 2 _ rfl
     exact .inl ⟨.int .i64 (2),W3,by simp only[execOp,Act.eval,d1];go_simp,Frm.refl _ _,hIW,⟨_,rfl,by decide⟩⟩
    ·have y0:W3.cell? ⟨b,3,none⟩=some (.int .i64 (3)):=hc.cell 3 _ rfl
     exact .inl ⟨.int .i64 (3),W3,by simp only[execOp,Act.eval,d1];go_simp,Frm.refl _ _,hIW,⟨_,rfl,by decide⟩⟩
    ·have y0:W3.cell? ⟨b,4,none⟩=some (.int .i64 (4)):=hc.cell 4 _ rfl
     exact .inl ⟨.int .i64 (4),W3,by simp only[execOp,Act.eval,d1];go_simp,Frm.refl _ _,hIW,⟨_,rfl,by decide⟩⟩
    ·have y0:W3.cell? ⟨b,5,none⟩=some (.int .i64 (2048)):=hc.cell 5 _ rfl
     exact .inl ⟨.int .i64 (2048),W3,by simp only[execOp,Act.eval,d1];go_simp,Frm.refl _ _,hIW,⟨_,rfl,by decide⟩⟩
   ·exact .inl ⟨.pointer (some ⟨g,0,none⟩),W3,by simp only[execOp,Act.eval,e0];go_simp,Frm.refl _ _,hIW,rfl⟩
   ·have d1:a'.tmps.getD 15 undef = .pointer (some ⟨g,0,none⟩):=dep 5 (by omega) (by kernel_rfl)
    refine .inr ⟨154,#[.pointer (some ⟨g,0,none⟩),.int .i64 5],by simp only[execOp,Act.eval,d1];go_simp,?_⟩
    refine (aC hIW (k:=5) (by omega)).mono ?_
    rintro e W' ⟨x,rfl,hx1,hx2,hs',hf'⟩
    exact⟨_,rfl,hf',hs',⟨x,rfl,hx1,hx2⟩⟩
   ·obtain⟨x,d1,hx1,hx2⟩:IntP (fun x=>0<=x/\(x<5\/x=0)) (a'.tmps.getD 16 undef) W3:=dep 6 (by omega) (by kernel_rfl)
    exact .inl ⟨.int .i64 (x-1),W3,by simp only[execOp,Act.eval,d1];go_simp;exact IntWalk.i64_in _ (by omega),Frm.refl _ _,hIW,⟨_,rfl,by omega,by omega⟩⟩
   ·obtain⟨x,d1,hx1,hx2⟩:IntP (fun x=>0<=x/\x<=2048) (a'.tmps.getD 14 undef) W3:=dep 4 (by omega) (by kernel_rfl)
    obtain⟨y,d2,hy1,hy2⟩:IntP (fun x=>-1<=x/\x<=3) (a'.tmps.getD 17 undef) W3:=dep 7 (by omega) (by kernel_rfl)
    exact .inl ⟨.agg #[.int .i64 x,.int .i64 y],W3,by (simp only[execOp,Act.eval,d1,d2];simp only[Array.getD_eq_getD_getElem?]at d1 d2;go_simp),Frm.refl _ _,hIW,⟨x,y,rfl,by omega,by omega,by omega,by omega⟩⟩
  intro u W2 hW hIW hg
  obtain⟨b0,g0,_,_⟩:SliP V.heap.size 6 [0,1,2,3,4,2048] (u 0) W2:=hg 0 (by omega)
  have g1:u 1 = .pointer (some ⟨g,0,none⟩):=hg 1 (by omega)
  obtain⟨x2,g2,_⟩:IntP (fun x=>0<=x/\(x<6\/x=0)) (u 2) W2:=hg 2 (by omega)
  obtain⟨b3,j3,g3,_⟩:AdrP V.heap.size [0,1,2,3,4,2048] (u 3) W2:=hg 3 (by omega)
  obtain⟨x4,g4,_⟩:IntP (fun x=>0<=x/\x<=2048) (u 4) W2:=hg 4 (by omega)
  have g5:u 5 = .pointer (some ⟨g,0,none⟩):=hg 5 (by omega)
  obtain⟨x6,g6,_⟩:IntP (fun x=>0<=x/\(x<5\/x=0)) (u 6) W2:=hg 6 (by omega)
  obtain⟨x7,g7,_⟩:IntP (fun x=>-1<=x/\x<=3) (u 7) W2:=hg 7 (by omega)
  obtain⟨cv,co,g8,hc1,hc2,hc3,hc4⟩:(CubP) (u 8) W2:=hg 8 (by omega)
  simp only[List.drop_succ_cons,List.drop_zero,putV,dsC16,g0,g1,g2,g3,g4,g5,g6,g7,g8,Act.put]
  clear g0 g1 g2 g3 g4 g5 g6 g7 g8 hg;have HFZ:=h_ (HF1.out.frm hW);have HSZ:=h_ hIW;clear hW hIW HF1 HS1 HSV
  have z0:=HFZ.out.l0 (by simp)
  have c00:=HFZ.out.c0 0 rfl;have f00:=HFZ.out.f0 0 rfl;have c01:=HFZ.out.c0 1 rfl;have f01:=HFZ.out.f0 1 rfl;have c02:=HFZ.out.c0 2 rfl;have f02:=HFZ.out.f0 2 rfl
  have z1:=HFZ.out.l1 (by simp)
  have c10:=HFZ.out.c1 0 rfl;have f10:=HFZ.out.f1 0 rfl;have c11:=HFZ.out.c1 1 rfl;have f11:=HFZ.out.f1 1 rfl
  go_wp2_with (fail)
  refine bodyPost_ret (v:=.agg #[.int .i64 cv,.int .i64 co]) (by simp[results,Tryz.results185,go_sem,z1,c10,c11,f10,f11]) rfl ?_
  refine⟨cv,co,rfl,⟨by omega,by omega,by omega,by omega⟩,?_,?_⟩
  ·repeat (with_reducible first|exact HSZ.out|refine SomG.set ?_ (by omega) _)
  ·repeat (with_reducible first|exact HFZ.out.f|refine Frm.ownSet ?_ (by omega) _)
 ·have b0:(k0 == 0)=false:=by simp[h0]
  clear h0
  go_wp2_with (fail)
  refine (aC HS1.out (k:=6) (by omega)).mono ?_
  rintro e w2 ⟨k1,rfl,lx2,ux2,hs,hf⟩
  have HS2:=h_ hs;have HF2:=h_ (HF1.out.frm hf);clear hs hf HS1 HF1
  obtain⟨k,rfl⟩:∃k:Nat,k1=k:=⟨k1.toNat,by omega⟩
  have hk5:k<=5:=by omega
  clear lx2 ux2
  have z0:=HF2.out.l0 (by simp)
  have c00:=HF2.out.c0 0 rfl;have f00:=HF2.out.f0 0 rfl;have c01:=HF2.out.c0 1 rfl;have f01:=HF2.out.f0 1 rfl;have c02:=HF2.out.c0 2 rfl;have f02:=HF2.out.f0 2 rfl
  have z1:=HF2.out.l1 (by simp)
  have c10:=HF2.out.c1 0 rfl;have f10:=HF2.out.f1 0 rfl;have c11:=HF2.out.c1 1 rfl;have f11:=HF2.out.f1 1 rfl
  go_wp2_with (fail)
  go_loop [5,6] (fun v5 v6=>∃(k:Nat) (v:Int),v6 = .int .i64 k/\v5 = .int .i64 v/\Dbl5 k v) (fun _ v6=>(intOf v6).toNat)
  case atStart=>exact⟨k,1,rfl,rfl,by unfold Dbl5;omega⟩
  case round=>
   obtain⟨k,v,rfl,rfl,hd⟩:=hrel
   by_cases hgo:0<k/\2*v<=m
   ·obtain⟨hk0,hvm⟩:=hgo
    have hki:(0:Int)<(k:Int):=by omega
    have hd':Hid (Dbl5 (k-1) (2*v)):=by unfold Hid Dbl5 at *;omega
    have hb:v<=32/\1<=v/\k<=5:=by unfold Dbl5 at hd;omega
    clear hd
    go_wp2_with (fail)
    go_round
    case rel=>exact⟨k-1,2*v,by go_num,rfl,hd'.out⟩
    case measure=>(simp[intOf])<;>omega
   focus
    have hb:v<=32/\1<=v/\k<=5:=by unfold Dbl5 at hd;omega
    clear hd
    by_cases hk0:0<k
    focus
     have hki:(0:Int)<(k:Int):=by omega
     have hvm:¬2*v<=m:=fun h=>hgo ⟨hk0,h⟩
     refine ?za
    rotate_left
    focus
     have hki:¬(0:Int)<(k:Int):=by omega
     refine ?zb
   rotate_left 2
   case za|zb=>
    clear hgo
    by_cases h1:v=1
    ·have b1:(v == 1)=true:=by simp[h1]
     have HFZ:=HF2;have HSZ:=HS2;clear h1
     go_wp2_with (fail)
     refine bodyPost_ret (v:=.agg #[.int .i64 1,.int .i64 0]) (by simp[results,Tryz.results185,go_sem,z1,c10,c11,f10,f11]) rfl ?_
     refine⟨1,0,rfl,⟨by omega,by omega,by omega,by omega⟩,?_,?_⟩
     ·repeat (with_reducible first|exact HSZ.out|refine SomG.set ?_ (by omega) _)
     ·repeat (with_reducible first|exact HFZ.out.f|refine Frm.ownSet ?_ (by omega) _)
    ·have b1:(v == 1)=false:=by simp[h1]
     clear h1
     go_wp2_with (fail)
     refine (aC HS2.out (k:=2) (by omega)).mono ?_
     rintro e w3 ⟨k2,rfl,lx3,ux3,hs,hf⟩
     clear z0 c00 f00 c01 f01 c02 f02 z1 c10 f10 c11 f11;have HSZ:=h_ hs;have HFZ:=h_ (HF2.out.frm hf);clear hs hf HS2 HF2
     have z0:=HFZ.out.l0 (by simp)
     have c00:=HFZ.out.c0 0 rfl;have f00:=HFZ.out.f0 0 rfl;have c01:=HFZ.out.c0 1 rfl;have f01:=HFZ.out.f0 1 rfl;have c02:=HFZ.out.c0 2 rfl;have f02:=HFZ.out.f0 2 rfl
     have z1:=HFZ.out.l1 (by simp)
     have c10:=HFZ.out.c1 0 rfl;have f10:=HFZ.out.f1 0 rfl;have c11:=HFZ.out.c1 1 rfl;have f11:=HFZ.out.f1 1 rfl
     go_wp2_with (fail)
     refine bodyPost_ret (v:=.agg #[.int .i64 v,.int .i64 (1+k2)]) (by simp[results,Tryz.results185,go_sem,z1,c10,c11,f10,f11]) rfl ?_
     refine⟨v,(1+k2),rfl,⟨by omega,by omega,by omega,by omega⟩,?_,?_⟩
     ·repeat (with_reducible first|exact HSZ.out|refine SomG.set ?_ (by omega) _)
     ·repeat (with_reducible first|exact HFZ.out.f|refine Frm.ownSet ?_ (by omega) _)
end Go.Proofs.YtkaiilmgemaljaaGreat

/- Contract of a drawn variant and kind of a database. There are no conditions beyond those that each states. -/
import Derived.Test.YtkaiilmgemaljaaGreatPD11
import Derived.Test.YtkaiilmgemaljaaGreatPR18
set_option linter.unusedVariables false
set_option linter.unusedSimpArgs false
namespace Go.Proofs.YtkaiilmgemaljaaGreat
open Go.RowKit
def RetV4 (g:Nat) (C:Option Addr) (n cc:Nat) (bs:List Int) (W:World) (e:Ending) (W':World):Prop:=
 ∃p c h s,e = .returned (.agg #[.int .i64 p,.int .i64 c,.int .i64 h,.int .i64 s])∧SomG g C n cc bs W'∧Frm (fun j=>j=g) W W'
def dsV3:Nat→Nat
 | 0=>10
 | 1=>11
 | 2=>12
 | 3=>13
 | 4=>14
 | 5=>15
 | 6=>16
 | _=>0
def dsV4:Nat→Nat
 | 0=>17
 | 1=>18
 | 2=>19
 | 3=>20
 | 4=>21
 | 5=>22
 | 6=>23
 | _=>0
def dsV5:Nat→Nat
 | 0=>14
 | 1=>15
 | 2=>16
 | 3=>17
 | 4=>18
 | 5=>19
 | 6=>20
 | 7=>21
 | _=>0
set_option maxRecDepth 100000 in
set_option maxHeartbeats 3000000 in
theorem l13DrawVariant_any (g:Nat) (C:Option Addr) (n c:Nat) (bs:List Int) (W:World) (hs:SomG g C n c bs W):
  Calls Tryz.prog 153 #[.pointer (some ⟨g,0,none⟩)] W (RetV4 g C n c bs W):=by
 have hg:=hs.lt
 have HF0:Hid (FrS (fun j=>j=g) W (W.alloc (.cells #[.int .i64 0,.int .i64 0,.int .i64 0,.int .i64 0] 25)) [[.int .i64 0,.int .i64 0,.int .i64 0,.int .i64 0]]):=(FrS.start W (fun k hk=>by rw[hk];exact hg)).allocT (by simp) _ _
 have HS0:=Lib.hid (hs.alloc (.cells #[.int .i64 0,.int .i64 0,.int .i64 0,.int .i64 0] 25));clear hs
 go_enter Tryz.func153,Tryz.ntmps153
 go_wp2_with (fail)
 obtain⟨q,hq⟩:=HS0.out
 refine (l09DrawVariant_any g C n c bs q _ hq).mono ?_
 rintro e w1 ⟨rfl,hs,hf⟩
 have hbd:=dvF_bd bs q;generalize dvF bs q=r at *;obtain⟨⟨p,cc,h,s⟩,q'⟩:=r
 simp only at hbd
 have HS1:Hid (SomG g C n c bs (w1.alloc (.cells #[.int .i64 p,.int .i64 cc,.int .i64 h,.int .i64 (min s 3)] 25))):=SomG.alloc ⟨_,hs⟩ _;have HF1:=Lib.hid ((HF0.out.frm hf).alloc (.cells #[.int .i64 p,.int .i64 cc,.int .i64 h,.int .i64 (min s 3)] 25));have HC1:Hid (Cel (w1.alloc (.cells #[.int .i64 p,.int .i64 cc,.int .i64 h,.int .i64 (min s 3)] 25)) w1.heap.size [.int .i64 p,.int .i64 cc,.int .i64 h,.int .i64 (min s 3)]):=Cel.new w1 #[.int .i64 p,.int .i64 cc,.int .i64 h,.int .i64 (min s 3)] _
 have hwv:W.heap.size+1≤w1.heap.size:=by have:=(HF0.out.frm hf).z;simpa using this
 have hgv:g<w1.heap.size:=hs.lt;clear hs hf HS0 HF0 hq
 go_upto_region 3 with (fail)
 generalize w1.alloc (.cells #[.int .i64 p,.int .i64 cc,.int .i64 h,.int .i64 (min s 3)] 25)=V at *;generalize min s 3=s3 at *;generalize w1.heap.size=gv at *;have HSV:=HS1;have HCV:=HC1;have hlo:g<V.heap.size:=HS1.out.lt
 refine wp_region_early 7 (fun _=>false) dsV3 (Frm (fun j=>j=g)) (SomG g C n c bs) (GL [Eqv (.pointer (some ⟨gv,1,none⟩)),Eqv (.int .i64 cc),Eqv (.pointer (some ⟨g,0,none⟩)),IntP (fun x=>0≤x∧(x<2∨x=0)),IntP (fun _=>True),IntP (fun _=>True),Eqv (.pointer (some ⟨gv,1,none⟩))]) rfl (by kernel_rfl) (fun _ _ _ _ _ h=>h) (fun _ _ _ h1 h2=>h1.trans h2) (fun a=>Frm.refl _ a) (GL.stabG (AllG.cons ((fun _ _ _ h _=>h)) (AllG.cons ((fun _ _ _ h _=>h)) (AllG.cons (stg_eq _ _) (AllG.cons (stg_int _ _) (AllG.cons ((fun _ _ _ h _=>h)) (AllG.cons ((fun _ _ _ h _=>h)) (AllG.cons ((fun _ _ _ h _=>h)) (AllG.nil))))))))) ((Frm.refl _ _).drew) (HSV.out.frm (O:=fun _=>False) ((Frm.refl _ _).drew) (fun _ h=>h.elim)) (fun i o' _ hX=>by cases hX) ?_ ?_
 ·intro i o' hi _ ho a' W3 hW hIW hfar hdep
  have e0:a'.tmps.getD 0 undef = .pointer (some ⟨g,0,none⟩):=(hfar 0 (by decide)).trans rfl
  have e3:a'.tmps.getD 3 undef = .pointer (some ⟨gv,0,none⟩):=(hfar 3 (by decide)).trans rfl
  have dep:∀j,j<7→Region.waitsFor .any _ i j=true→GL [Eqv (.pointer (some ⟨gv,1,none⟩)),Eqv (.int .i64 cc),Eqv (.pointer (some ⟨g,0,none⟩)),IntP (fun x=>0≤x∧(x<2∨x=0)),IntP (fun _=>True),IntP (fun _=>True),Eqv (.pointer (some ⟨gv,1,none⟩))] j (a'.tmps.getD (dsV3 j) undef) W3:=hdep
  have hVW:V.heap.size≤W3.heap.size:=hW.size
  have hi8:i=0∨i=1∨i=2∨i=3∨i=4∨i=5∨i=6:=by omega
  clear hfar hdep hi
  rcases hi8 with rfl|rfl|rfl|rfl|rfl|rfl|rfl
  all_goals (simp at ho;subst ho)
  ·exact .inl ⟨.pointer (some ⟨gv,1,none⟩),W3,by simp only[execOp,Act.eval,e3];go_simp,Frm.refl _ _,hIW,rfl⟩
  ·have d1:a'.tmps.getD 10 undef = .pointer (some ⟨gv,1,none⟩):=dep 0 (by omega) (by kernel_rfl)
   have zz:=HCV.out.frmN hW (by omega)
   have y3:=zz.cell 1 _ rfl
   exact .inl ⟨.int .i64 cc,W3,by simp only[execOp,Act.eval,d1];go_simp,Frm.refl _ _,hIW,rfl⟩
  ·exact .inl ⟨.pointer (some ⟨g,0,none⟩),W3,by simp only[execOp,Act.eval,e0];go_simp,Frm.refl _ _,hIW,rfl⟩
  ·have d1:a'.tmps.getD 12 undef = .pointer (some ⟨g,0,none⟩):=dep 2 (by omega) (by kernel_rfl)
   refine .inr ⟨154,#[.pointer (some ⟨g,0,none⟩),.int .i64 2],by simp only[execOp,Act.eval,d1];go_simp,?_⟩
   refine (some_next hIW (k:=2) (by omega)).mono ?_
   rintro e W' ⟨x,rfl,hx1,hx2,hs',hf'⟩
   exact⟨_,rfl,hf',hs',⟨x,rfl,hx1,hx2⟩⟩
  ·obtain⟨x,d1,hx1,hx2⟩:(IntP (fun x=>0≤x∧(x<2∨x=0))) (a'.tmps.getD 13 undef) W3:=dep 3 (by omega) (by kernel_rfl)
   exact .inl ⟨.int .i64 (2+x),W3,by simp only[execOp,Act.eval,d1];go_simp;exact IntWalk.i64_in _ (by omega),Frm.refl _ _,hIW,⟨_,rfl,trivial⟩⟩
  ·have d1:a'.tmps.getD 11 undef = .int .i64 cc:=dep 1 (by omega) (by kernel_rfl)
   obtain⟨y,d2,_⟩:(IntP (fun _=>True)) (a'.tmps.getD 14 undef) W3:=dep 4 (by omega) (by kernel_rfl)
   exact .inl ⟨.int .i64 (min cc y),W3,by simp only[execOp,Act.eval,d1,d2];go_simp,Frm.refl _ _,hIW,⟨_,rfl,trivial⟩⟩
  ·exact .inl ⟨.pointer (some ⟨gv,1,none⟩),W3,by simp only[execOp,Act.eval,e3];go_simp,Frm.refl _ _,hIW,rfl⟩
 intro u W2 hW hIW hg
 have g0:u 0 = .pointer (some ⟨gv,1,none⟩):=hg 0 (by omega)
 have g1:u 1 = .int .i64 cc:=hg 1 (by omega)
 have g2:u 2 = .pointer (some ⟨g,0,none⟩):=hg 2 (by omega)
 obtain⟨x3,g3,_⟩:IntP (fun x=>0≤x∧(x<2∨x=0)) (u 3) W2:=hg 3 (by omega)
 obtain⟨x4,g4,_⟩:(IntP (fun _=>True)) (u 4) W2:=hg 4 (by omega)
 obtain⟨x5,g5,_⟩:(IntP (fun _=>True)) (u 5) W2:=hg 5 (by omega)
 have g6:u 6 = .pointer (some ⟨gv,1,none⟩):=hg 6 (by omega)
 simp only[List.drop_succ_cons,List.drop_zero,putV,dsV3,g0,g1,g2,g3,g4,g5,g6,Act.put]
 clear g0 g1 g2 g3 g4 g5 g6 hg
 have HCV3:=Lib.hid (HCV.out.frmN hW (by omega))
 have HF3:=Lib.hid (HF1.out.frm hW);have hgz3:gv<W2.heap.size:=HCV3.out.lt;have y1:=HCV3.out.cell 1 _ rfl;have yf:=HCV3.out.froz 1 _ rfl;clear HF1 HS1 HC1 HCV HSV hW hlo
 go_wp2_with (fail)
 have HSV:=Lib.hid (hIW.set hgv (i:=1) (.int .i64 x5))
 have HCV:Hid (Cel (W2.setCell ⟨gv,1,none⟩ (.int .i64 x5)) gv [.int .i64 p,.int .i64 x5,.int .i64 h,.int .i64 s3]):=HCV3.out.st (i:=1) (by simp)
 have HF4:Hid (FrS (fun j=>j=g) W (W2.setCell ⟨gv,1,none⟩ (.int .i64 x5)) [[.int .i64 0,.int .i64 0,.int .i64 0,.int .i64 0]]):=HF3.out.setOut (by simp only[List.length_cons,List.length_nil];omega)
 clear HCV3 HF3 y1 yf hIW hgz3;generalize W2.setCell ⟨gv,1,none⟩ (.int .i64 x5)=V at *;generalize x5=cx at *;have hlo:g<V.heap.size:=HSV.out.lt
 refine wp_region_early 7 (fun _=>false) dsV4 (Frm (fun j=>j=g)) (SomG g C n c bs) (GL [Eqv (.pointer (some ⟨gv,2,none⟩)),Eqv (.int .i64 h),Eqv (.pointer (some ⟨g,0,none⟩)),IntP (fun x=>0≤x∧(x<3∨x=0)),IntP (fun _=>True),IntP (fun _=>True),Eqv (.pointer (some ⟨gv,2,none⟩))]) rfl (by kernel_rfl) (fun _ _ _ _ _ h=>h) (fun _ _ _ h1 h2=>h1.trans h2) (fun a=>Frm.refl _ a) (GL.stabG (AllG.cons ((fun _ _ _ h _=>h)) (AllG.cons ((fun _ _ _ h _=>h)) (AllG.cons (stg_eq _ _) (AllG.cons (stg_int _ _) (AllG.cons ((fun _ _ _ h _=>h)) (AllG.cons ((fun _ _ _ h _=>h)) (AllG.cons ((fun _ _ _ h _=>h)) (AllG.nil))))))))) ((Frm.refl _ _).drew) (HSV.out.frm (O:=fun _=>False) ((Frm.refl _ _).drew) (fun _ h=>h.elim)) (fun i o' _ hX=>by cases hX) ?_ ?_
 ·intro i o' hi _ ho a' W3 hW hIW hfar hdep
  have e0:a'.tmps.getD 0 undef = .pointer (some ⟨g,0,none⟩):=(hfar 0 (by decide)).trans rfl
  have e3:a'.tmps.getD 3 undef = .pointer (some ⟨gv,0,none⟩):=(hfar 3 (by decide)).trans rfl
  have dep:∀j,j<7→Region.waitsFor .any _ i j=true→GL [Eqv (.pointer (some ⟨gv,2,none⟩)),Eqv (.int .i64 h),Eqv (.pointer (some ⟨g,0,none⟩)),IntP (fun x=>0≤x∧(x<3∨x=0)),IntP (fun _=>True),IntP (fun _=>True),Eqv (.pointer (some ⟨gv,2,none⟩))] j (a'.tmps.getD (dsV4 j) undef) W3:=hdep
  have hVW:V.heap.size≤W3.heap.size:=hW.size
  have hi8:i=0∨i=1∨i=2∨i=3∨i=4∨i=5∨i=6:=by omega
  clear hfar hdep hi
  rcases hi8 with rfl|rfl|rfl|rfl|rfl|rfl|rfl
  all_goals (simp at ho;subst ho)
  ·exact .inl ⟨.pointer (some ⟨gv,2,none⟩),W3,by simp only[execOp,Act.eval,e3];go_simp,Frm.refl _ _,hIW,rfl⟩
  ·have d1:a'.tmps.getD 17 undef = .pointer (some ⟨gv,2,none⟩):=dep 0 (by omega) (by kernel_rfl)
   have zz:=HCV.out.frmN hW (by omega)
   have y3:=zz.cell 2 _ rfl
   exact .inl ⟨.int .i64 h,W3,by simp only[execOp,Act.eval,d1];go_simp,Frm.refl _ _,hIW,rfl⟩
  ·exact .inl ⟨.pointer (some ⟨g,0,none⟩),W3,by simp only[execOp,Act.eval,e0];go_simp,Frm.refl _ _,hIW,rfl⟩
  ·have d1:a'.tmps.getD 19 undef = .pointer (some ⟨g,0,none⟩):=dep 2 (by omega) (by kernel_rfl)
   refine .inr ⟨154,#[.pointer (some ⟨g,0,none⟩),.int .i64 3],by simp only[execOp,Act.eval,d1];go_simp,?_⟩
   refine (some_next hIW (k:=3) (by omega)).mono ?_
   rintro e W' ⟨x,rfl,hx1,hx2,hs',hf'⟩
   exact⟨_,rfl,hf',hs',⟨x,rfl,hx1,hx2⟩⟩
  ·obtain⟨x,d1,hx1,hx2⟩:(IntP (fun x=>0≤x∧(x<3∨x=0))) (a'.tmps.getD 20 undef) W3:=dep 3 (by omega) (by kernel_rfl)
   exact .inl ⟨.int .i64 (1+x),W3,by simp only[execOp,Act.eval,d1];go_simp;exact IntWalk.i64_in _ (by omega),Frm.refl _ _,hIW,⟨_,rfl,trivial⟩⟩
  ·have d1:a'.tmps.getD 18 undef = .int .i64 h:=dep 1 (by omega) (by kernel_rfl)
   obtain⟨y,d2,_⟩:(IntP (fun _=>True)) (a'.tmps.getD 21 undef) W3:=dep 4 (by omega) (by kernel_rfl)
   exact .inl ⟨.int .i64 (min h y),W3,by simp only[execOp,Act.eval,d1,d2];go_simp,Frm.refl _ _,hIW,⟨_,rfl,trivial⟩⟩
  ·exact .inl ⟨.pointer (some ⟨gv,2,none⟩),W3,by simp only[execOp,Act.eval,e3];go_simp,Frm.refl _ _,hIW,rfl⟩
 intro u W2 hW hIW hg
 have g0:u 0 = .pointer (some ⟨gv,2,none⟩):=hg 0 (by omega)
 have g1:u 1 = .int .i64 h:=hg 1 (by omega)
 have g2:u 2 = .pointer (some ⟨g,0,none⟩):=hg 2 (by omega)
 obtain⟨x3,g3,_⟩:IntP (fun x=>0≤x∧(x<3∨x=0)) (u 3) W2:=hg 3 (by omega)
 obtain⟨x4,g4,_⟩:(IntP (fun _=>True)) (u 4) W2:=hg 4 (by omega)
 obtain⟨x5,g5,_⟩:(IntP (fun _=>True)) (u 5) W2:=hg 5 (by omega)
 have g6:u 6 = .pointer (some ⟨gv,2,none⟩):=hg 6 (by omega)
 simp only[List.drop_succ_cons,List.drop_zero,putV,dsV4,g0,g1,g2,g3,g4,g5,g6,Act.put]
 clear g0 g1 g2 g3 g4 g5 g6 hg
 have HCV3:=Lib.hid (HCV.out.frmN hW (by omega))
 have HF3:=Lib.hid (HF4.out.frm hW);have hgz3:gv<W2.heap.size:=HCV3.out.lt;have y0:=HCV3.out.cell 0 _ rfl;have y1:=HCV3.out.cell 1 _ rfl;have y2:=HCV3.out.cell 2 _ rfl;have y3:=HCV3.out.cell 3 _ rfl;have yf:=HCV3.out.froz 2 _ rfl
 have hn1:¬W.heap.size=gv:=by omega
 have hn2:¬gv=W.heap.size:=by omega
 clear HF4 HSV HCV hlo;obtain⟨z0,c00,f00,c01,f01,c02,f02,c03,f03⟩:=HF3.out.xf2
 go_wp2_with (fail)
 refine bodyPost_ret (v:=.agg #[.int .i64 p,.int .i64 cx,.int .i64 x5,.int .i64 s3]) (by simp[results,Tryz.results153,go_sem,z0,c00,c01,c02,c03,f00,f01,f02,f03]) rfl ?_
 refine⟨_,_,_,_,rfl,?_,?_⟩
 ·repeat (with_reducible first|exact hIW|refine SomG.set ?_ (by omega) _)
 ·repeat (with_reducible first|exact HF3.out.f|refine Frm.ownSet ?_ (by omega) _)
set_option maxRecDepth 100000 in
set_option maxHeartbeats 3000000 in
theorem DrawBuildDatabase_any (C:Option Addr) (n c:Nat) (bs:List Int) (W:World) (hC:SBy W C n bs) (hn:n≤4096):
  Calls Tryz.prog 67 #[.slice C n c] W fun e W'=>∃p cc h s k:Int,e = .returned (.tuple #[.agg #[.int .i64 p,.int .i64 cc,.int .i64 h,.int .i64 s],.int .i64 k])∧Below W.heap.size W W':=by
 have HF0:Hid (FrS (fun _=>False) W (W.alloc (.cells #[.int .i64 0,.int .i64 0,.int .i64 0,.int .i64 0] 25)) [[.int .i64 0,.int .i64 0,.int .i64 0,.int .i64 0]]):=(FrS.start W (fun _ h=>h.elim)).allocT (by simp) _ _
 have HC0:Hid (SBy (W.alloc (.cells #[.int .i64 0,.int .i64 0,.int .i64 0,.int .i64 0] 25)) C n bs):=hC.frm (S:=fun _=>False) ((Frm.refl _ _).alloc _) (fun _ _ _ _ _ h=>h)
 clear hC
 go_enter Tryz.func67,Tryz.ntmps67
 go_wp2_with (fail)
 refine (some_from C n c bs _ HC0.out hn).mono ?_
 rintro e w1 ⟨rfl,hs,hb⟩
 obtain⟨g,hg⟩:∃g,g=W.heap.size+1:=⟨_,rfl⟩
 have hg':(W.alloc (.cells #[.int .i64 0,.int .i64 0,.int .i64 0,.int .i64 0] 25)).heap.size=g:=by rw[hg];simp
 rw[hg']at hs ⊢;have HS1:=Lib.hid hs;have HF1:=Lib.hid (HF0.out.below hb)
 have hg1:W.heap.size+1≤g:=by omega
 clear hs hb HF0 HC0 hg hg'
 go_wp2_with (fail)
 refine (l13DrawVariant_any g C n c bs _ HS1.out).mono ?_
 rintro e w2 ⟨p,cc,h,s,rfl,hs,hf⟩
 have HS2:=Lib.hid (hs.alloc (.cells #[.int .i64 p,.int .i64 cc,.int .i64 h,.int .i64 s] 25))
 have HF2:=Lib.hid ((HF1.out.outs hf (fun k hk=>by rw[hk];simp only[List.length_cons,List.length_nil];omega)).alloc (.cells #[.int .i64 p,.int .i64 cc,.int .i64 h,.int .i64 s] 25))
 have HC2:Hid (Cel (w2.alloc (.cells #[.int .i64 p,.int .i64 cc,.int .i64 h,.int .i64 s] 25)) w2.heap.size [.int .i64 p,.int .i64 cc,.int .i64 h,.int .i64 s]):=Cel.new w2 #[.int .i64 p,.int .i64 cc,.int .i64 h,.int .i64 s] _;have hgv:g<w2.heap.size:=hs.lt;clear hs hf HS1 HF1
 go_wp2_with (fail)
 generalize w2.alloc (.cells #[.int .i64 p,.int .i64 cc,.int .i64 h,.int .i64 s] 25)=V2 at *;generalize w2.heap.size=gv at *
 refine (some_next HS2.out (k:=16) (by omega)).mono ?_
 rintro e V ⟨k0,rfl,lx1,ux1,hs,hf⟩
 have HSV:=Lib.hid hs
 have HFV:=Lib.hid (HF2.out.outs hf (fun k hk=>by rw[hk];simp only[List.length_cons,List.length_nil];omega))
 have HCV:=Lib.hid (HC2.out.frmN hf (by omega))
 clear hs hf HS2 HF2 HC2
 by_cases h0:k0=0
 ·have y0:=HCV.out.cell 0 _ rfl
  have y1:=HCV.out.cell 1 _ rfl;have y2:=HCV.out.cell 2 _ rfl;have y3:=HCV.out.cell 3 _ rfl;have y0':=HCV.out.froz 0 _ rfl;have y1':=HCV.out.froz 1 _ rfl;have y2':=HCV.out.froz 2 _ rfl;have y3':=HCV.out.froz 3 _ rfl;have yz:=HCV.out.lt
  have b0:(k0 == 0)=true:=by simp[h0]
  clear h0
  go_wp2_with (fail)
  have HCN:Hid (Cel ((((V.setCell ⟨gv,0,none⟩ (.int .i64 24)).setCell ⟨gv,1,none⟩ (.int .i64 15)).setCell ⟨gv,2,none⟩ (.int .i64 6)).setCell ⟨gv,3,none⟩ (.int .i64 6)) gv [.int .i64 24,.int .i64 15,.int .i64 6,.int .i64 6]):=(((HCV.out.st (i:=0) (v:=.int .i64 24) (by simp)).st (i:=1) (v:=.int .i64 15) (by simp)).st (i:=2) (v:=.int .i64 6) (by simp)).st (i:=3) (v:=.int .i64 6) (by simp)
  have hfr:Frm (fun j=>j=gv) V ((((V.setCell ⟨gv,0,none⟩ (.int .i64 24)).setCell ⟨gv,1,none⟩ (.int .i64 15)).setCell ⟨gv,2,none⟩ (.int .i64 6)).setCell ⟨gv,3,none⟩ (.int .i64 6)):=(((Frm.set _ _ _ _).trans (Frm.set _ _ _ _)).trans (Frm.set _ _ _ _)).trans (Frm.set _ _ _ _)
  have HSN:=Lib.hid (HSV.out.frm hfr (fun k hk=>by rw[hk];exact hgv))
  have HFN:=Lib.hid (HFV.out.outs hfr (fun k hk=>by rw[hk];simp only[List.length_cons,List.length_nil];omega))
  clear hfr y0 y1 y2 y3 y0' y1' y2' y3' yz HCV HSV HFV;generalize (((V.setCell ⟨gv,0,none⟩ (.int .i64 24)).setCell ⟨gv,1,none⟩ (.int .i64 15)).setCell ⟨gv,2,none⟩ (.int .i64 6)).setCell ⟨gv,3,none⟩ (.int .i64 6)=V at *;have HCV:=HCN;have HSV:=HSN;have HFV:=HFN;clear HCN HSN HFN;obtain⟨p,hp⟩:∃p:Int,p=24:=⟨_,rfl⟩;obtain⟨cc,hcc⟩:∃cc:Int,cc=15:=⟨_,rfl⟩;obtain⟨h,hh⟩:∃h:Int,h=6:=⟨_,rfl⟩;obtain⟨s,hs⟩:∃s:Int,s=6:=⟨_,rfl⟩;rw[← hp,← hcc]at HCV
  replace HCV:Hid (Cel V gv [.int .i64 p,.int .i64 cc,.int .i64 h,.int .i64 s]):=by rw[hh,hs];exact HCV
  clear hp hcc hh hs;have hlo:g<V.heap.size:=HSV.out.lt
  refine wp_region_early 8 (fun i=>i == 3||i == 6||i == 7) dsV5 (Frm (fun j=>j=g)) (SomG g C n c bs) (GL [Eqv (.agg #[.int .i64 p,.int .i64 cc,.int .i64 h,.int .i64 s]),Eqv (.pointer (some ⟨g,0,none⟩)),IntP (fun x=>0≤x∧(x<2∨x=0)),IntP (fun x=>0≤x∧x≤9),Eqv (.pointer (some ⟨g,0,none⟩)),IntP (fun x=>0≤x∧(x<16∨x=0)),IntP (fun x=>0≤x∧x≤9),IntP (fun _=>True)]) rfl (by kernel_rfl) (fun _ _ _ _ _ h=>h) (fun _ _ _ h1 h2=>h1.trans h2) (fun a=>Frm.refl _ a) (GL.stabG (AllG.cons ((fun _ _ _ h _=>h)) (AllG.cons (stg_eq _ _) (AllG.cons (stg_int _ _) (AllG.cons ((fun _ _ _ h _=>h)) (AllG.cons (stg_eq _ _) (AllG.cons (stg_int _ _) (AllG.cons ((fun _ _ _ h _=>h)) (AllG.cons ((fun _ _ _ h _=>h)) (AllG.nil)))))))))) ((Frm.refl _ _).drew) (HSV.out.frm (O:=fun _=>False) ((Frm.refl _ _).drew) (fun _ h=>h.elim)) ?_ ?_ ?_
  ·intro i o' hi hX ho a' W3 hW hIW hfar hdep
   have e4:a'.tmps.getD 4 undef = .pointer (some ⟨g,0,none⟩):=(hfar 4 (by decide)).trans rfl
   have e5:a'.tmps.getD 5 undef = .pointer (some ⟨gv,0,none⟩):=(hfar 5 (by decide)).trans rfl
   have dep:∀j,j<8→Region.waitsFor .any _ i j=true→GL [Eqv (.agg #[.int .i64 p,.int .i64 cc,.int .i64 h,.int .i64 s]),Eqv (.pointer (some ⟨g,0,none⟩)),IntP (fun x=>0≤x∧(x<2∨x=0)),IntP (fun x=>0≤x∧x≤9),Eqv (.pointer (some ⟨g,0,none⟩)),IntP (fun x=>0≤x∧(x<16∨x=0)),IntP (fun x=>0≤x∧x≤9),IntP (fun _=>True)] j (a'.tmps.getD (dsV5 j) undef) W3:=hdep
   have hVW:V.heap.size≤W3.heap.size:=hW.size
   have hi8:i=3∨i=6∨i=7:=by simpa[or_assoc]using hX
   clear hfar hdep hX hi
   rcases hi8 with rfl|rfl|rfl
   all_goals (simp at ho;subst ho)
   ·obtain⟨x,d1,hx1,hx2⟩:(IntP (fun x=>0≤x∧(x<2∨x=0))) (a'.tmps.getD 16 undef) W3:=dep 2 (by omega) (by kernel_rfl)
    exact⟨.int .i64 (1+x),fun W'=>by simp only[execOp,Act.eval,d1];go_simp;exact IntWalk.i64_in _ (by omega),⟨_,rfl,by omega⟩⟩
   ·obtain⟨x,d1,hx1,hx2⟩:(IntP (fun x=>0≤x∧(x<16∨x=0))) (a'.tmps.getD 19 undef) W3:=dep 5 (by omega) (by kernel_rfl)
    exact⟨.int .i64 (x / 15),fun W'=>by simp only[execOp,Act.eval,d1];go_simp;rw[Int.tdiv_eq_ediv_of_nonneg hx1];exact IntWalk.i64_in _ (by omega),⟨_,rfl,by omega⟩⟩
   ·obtain⟨x,d1,hx1,hx2⟩:(IntP (fun x=>0≤x∧x≤9)) (a'.tmps.getD 17 undef) W3:=dep 3 (by omega) (by kernel_rfl)
    obtain⟨y,d2,hy1,hy2⟩:(IntP (fun x=>0≤x∧x≤9)) (a'.tmps.getD 20 undef) W3:=dep 6 (by omega) (by kernel_rfl)
    exact⟨.int .i64 (x+y),fun W'=>by simp only[execOp,Act.eval,d1,d2];go_simp;exact IntWalk.i64_in _ (by omega),⟨_,rfl,trivial⟩⟩
  ·intro i o' hi hX ho a' W3 hW hIW hfar hdep
   have e4:a'.tmps.getD 4 undef = .pointer (some ⟨g,0,none⟩):=(hfar 4 (by decide)).trans rfl
   have e5:a'.tmps.getD 5 undef = .pointer (some ⟨gv,0,none⟩):=(hfar 5 (by decide)).trans rfl
   have dep:∀j,j<8→Region.waitsFor .any _ i j=true→GL [Eqv (.agg #[.int .i64 p,.int .i64 cc,.int .i64 h,.int .i64 s]),Eqv (.pointer (some ⟨g,0,none⟩)),IntP (fun x=>0≤x∧(x<2∨x=0)),IntP (fun x=>0≤x∧x≤9),Eqv (.pointer (some ⟨g,0,none⟩)),IntP (fun x=>0≤x∧(x<16∨x=0)),IntP (fun x=>0≤x∧x≤9),IntP (fun _=>True)] j (a'.tmps.getD (dsV5 j) undef) W3:=hdep
   have hVW:V.heap.size≤W3.heap.size:=hW.size
   have hi8:i=0∨i=1∨i=2∨i=4∨i=5:=by simp at hX;omega
   clear hfar hdep hX hi
   rcases hi8 with rfl|rfl|rfl|rfl|rfl
   all_goals (simp at ho;subst ho)
   ·have zz:=HCV.out.frmN hW (by omega)
    have y0:=zz.cell 0 _ rfl;have y1:=zz.cell 1 _ rfl;have y2:=zz.cell 2 _ rfl;have y3:=zz.cell 3 _ rfl
    exact .inl ⟨.agg #[.int .i64 p,.int .i64 cc,.int .i64 h,.int .i64 s],W3,by simp only[execOp,Act.eval,e5];go_simp,Frm.refl _ _,hIW,rfl⟩
   ·exact .inl ⟨.pointer (some ⟨g,0,none⟩),W3,by simp only[execOp,Act.eval,e4];go_simp,Frm.refl _ _,hIW,rfl⟩
   ·have d1:a'.tmps.getD 15 undef = .pointer (some ⟨g,0,none⟩):=dep 1 (by omega) (by kernel_rfl)
    refine .inr ⟨154,#[.pointer (some ⟨g,0,none⟩),.int .i64 2],by simp only[execOp,Act.eval,d1];go_simp,?_⟩
    refine (some_next hIW (k:=2) (by omega)).mono ?_
    rintro e W' ⟨x,rfl,hx1,hx2,hs',hf'⟩
    exact⟨_,rfl,hf',hs',⟨x,rfl,hx1,hx2⟩⟩
   ·exact .inl ⟨.pointer (some ⟨g,0,none⟩),W3,by simp only[execOp,Act.eval,e4];go_simp,Frm.refl _ _,hIW,rfl⟩
   ·have d1:a'.tmps.getD 18 undef = .pointer (some ⟨g,0,none⟩):=dep 4 (by omega) (by kernel_rfl)
    refine .inr ⟨154,#[.pointer (some ⟨g,0,none⟩),.int .i64 16],by simp only[execOp,Act.eval,d1];go_simp,?_⟩
    refine (some_next hIW (k:=16) (by omega)).mono ?_
    rintro e W' ⟨x,rfl,hx1,hx2,hs',hf'⟩
    exact⟨_,rfl,hf',hs',⟨x,rfl,hx1,hx2⟩⟩
  intro u W2 hW hIW hg
  have g0:u 0 = .agg #[.int .i64 p,.int .i64 cc,.int .i64 h,.int .i64 s]:=hg 0 (by omega)
  have g1:u 1 = .pointer (some ⟨g,0,none⟩):=hg 1 (by omega)
  obtain⟨x2,g2,_⟩:IntP (fun x=>0≤x∧(x<2∨x=0)) (u 2) W2:=hg 2 (by omega)
  obtain⟨x3,g3,_⟩:(IntP (fun x=>0≤x∧x≤9)) (u 3) W2:=hg 3 (by omega)
  have g4:u 4 = .pointer (some ⟨g,0,none⟩):=hg 4 (by omega)
  obtain⟨x5,g5,_⟩:IntP (fun x=>0≤x∧(x<16∨x=0)) (u 5) W2:=hg 5 (by omega)
  obtain⟨x6,g6,_⟩:(IntP (fun x=>0≤x∧x≤9)) (u 6) W2:=hg 6 (by omega)
  obtain⟨x7,g7,_⟩:(IntP (fun _=>True)) (u 7) W2:=hg 7 (by omega)
  simp only[List.drop_succ_cons,List.drop_zero,putV,dsV5,g0,g1,g2,g3,g4,g5,g6,g7,Act.put]
  clear g0 g1 g2 g3 g4 g5 g6 g7 hg
  have HF9:=Lib.hid (HFV.out.outs hW (fun k hk=>by rw[hk];simp only[List.length_cons,List.length_nil];omega))
  clear HFV HSV HCV hlo;obtain⟨z0,c00,f00,c01,f01,c02,f02,c03,f03⟩:=HF9.out.xf2
  go_wp2_with (fail)
  refine bodyPost_ret (v:=.tuple #[.agg #[.int .i64 p,.int .i64 cc,.int .i64 h,.int .i64 s],.int .i64 x7]) (by simp[results,Tryz.results67,go_sem,z0,c00,c01,c02,c03,f00,f01,f02,f03]) rfl ?_
  refine⟨_,_,_,_,_,rfl,?_⟩
  repeat (with_reducible first|exact HF9.out.belowW|refine bd_set ?_ (by omega) _)
 ·have b0:(k0 == 0)=false:=by simp[h0]
  clear h0
  go_wp2_with (fail)
  have hlo:g<V.heap.size:=HSV.out.lt
  refine wp_region_early 8 (fun i=>i == 3||i == 6||i == 7) dsV5 (Frm (fun j=>j=g)) (SomG g C n c bs) (GL [Eqv (.agg #[.int .i64 p,.int .i64 cc,.int .i64 h,.int .i64 s]),Eqv (.pointer (some ⟨g,0,none⟩)),IntP (fun x=>0≤x∧(x<2∨x=0)),IntP (fun x=>0≤x∧x≤9),Eqv (.pointer (some ⟨g,0,none⟩)),IntP (fun x=>0≤x∧(x<16∨x=0)),IntP (fun x=>0≤x∧x≤9),IntP (fun _=>True)]) rfl (by kernel_rfl) (fun _ _ _ _ _ h=>h) (fun _ _ _ h1 h2=>h1.trans h2) (fun a=>Frm.refl _ a) (GL.stabG (AllG.cons ((fun _ _ _ h _=>h)) (AllG.cons (stg_eq _ _) (AllG.cons (stg_int _ _) (AllG.cons ((fun _ _ _ h _=>h)) (AllG.cons (stg_eq _ _) (AllG.cons (stg_int _ _) (AllG.cons ((fun _ _ _ h _=>h)) (AllG.cons ((fun _ _ _ h _=>h)) (AllG.nil)))))))))) ((Frm.refl _ _).drew) (HSV.out.frm (O:=fun _=>False) ((Frm.refl _ _).drew) (fun _ h=>h.elim)) ?_ ?_ ?_
  ·intro i o' hi hX ho a' W3 hW hIW hfar hdep
   have e4:a'.tmps.getD 4 undef = .pointer (some ⟨g,0,none⟩):=(hfar 4 (by decide)).trans rfl
   have e5:a'.tmps.getD 5 undef = .pointer (some ⟨gv,0,none⟩):=(hfar 5 (by decide)).trans rfl
   have dep:∀j,j<8→Region.waitsFor .any _ i j=true→GL [Eqv (.agg #[.int .i64 p,.int .i64 cc,.int .i64 h,.int .i64 s]),Eqv (.pointer (some ⟨g,0,none⟩)),IntP (fun x=>0≤x∧(x<2∨x=0)),IntP (fun x=>0≤x∧x≤9),Eqv (.pointer (some ⟨g,0,none⟩)),IntP (fun x=>0≤x∧(x<16∨x=0)),IntP (fun x=>0≤x∧x≤9),IntP (fun _=>True)] j (a'.tmps.getD (dsV5 j) undef) W3:=hdep
   have hVW:V.heap.size≤W3.heap.size:=hW.size
   have hi8:i=3∨i=6∨i=7:=by simpa[or_assoc]using hX
   clear hfar hdep hX hi
   rcases hi8 with rfl|rfl|rfl
   all_goals (simp at ho;subst ho)
   ·obtain⟨x,d1,hx1,hx2⟩:(IntP (fun x=>0≤x∧(x<2∨x=0))) (a'.tmps.getD 16 undef) W3:=dep 2 (by omega) (by kernel_rfl)
    exact⟨.int .i64 (1+x),fun W'=>by simp only[execOp,Act.eval,d1];go_simp;exact IntWalk.i64_in _ (by omega),⟨_,rfl,by omega⟩⟩
   ·obtain⟨x,d1,hx1,hx2⟩:(IntP (fun x=>0≤x∧(x<16∨x=0))) (a'.tmps.getD 19 undef) W3:=dep 5 (by omega) (by kernel_rfl)
    exact⟨.int .i64 (x / 15),fun W'=>by simp only[execOp,Act.eval,d1];go_simp;rw[Int.tdiv_eq_ediv_of_nonneg hx1];exact IntWalk.i64_in _ (by omega),⟨_,rfl,by omega⟩⟩
   ·obtain⟨x,d1,hx1,hx2⟩:(IntP (fun x=>0≤x∧x≤9)) (a'.tmps.getD 17 undef) W3:=dep 3 (by omega) (by kernel_rfl)
    obtain⟨y,d2,hy1,hy2⟩:(IntP (fun x=>0≤x∧x≤9)) (a'.tmps.getD 20 undef) W3:=dep 6 (by omega) (by kernel_rfl)
    exact⟨.int .i64 (x+y),fun W'=>by simp only[execOp,Act.eval,d1,d2];go_simp;exact IntWalk.i64_in _ (by omega),⟨_,rfl,trivial⟩⟩
  ·intro i o' hi hX ho a' W3 hW hIW hfar hdep
   have e4:a'.tmps.getD 4 undef = .pointer (some ⟨g,0,none⟩):=(hfar 4 (by decide)).trans rfl
   have e5:a'.tmps.getD 5 undef = .pointer (some ⟨gv,0,none⟩):=(hfar 5 (by decide)).trans rfl
   have dep:∀j,j<8→Region.waitsFor .any _ i j=true→GL [Eqv (.agg #[.int .i64 p,.int .i64 cc,.int .i64 h,.int .i64 s]),Eqv (.pointer (some ⟨g,0,none⟩)),IntP (fun x=>0≤x∧(x<2∨x=0)),IntP (fun x=>0≤x∧x≤9),Eqv (.pointer (some ⟨g,0,none⟩)),IntP (fun x=>0≤x∧(x<16∨x=0)),IntP (fun x=>0≤x∧x≤9),IntP (fun _=>True)] j (a'.tmps.getD (dsV5 j) undef) W3:=hdep
   have hVW:V.heap.size≤W3.heap.size:=hW.size
   have hi8:i=0∨i=1∨i=2∨i=4∨i=5:=by simp at hX;omega
   clear hfar hdep hX hi
   rcases hi8 with rfl|rfl|rfl|rfl|rfl
   all_goals (simp at ho;subst ho)
   ·have zz:=HCV.out.frmN hW (by omega)
    have y0:=zz.cell 0 _ rfl;have y1:=zz.cell 1 _ rfl;have y2:=zz.cell 2 _ rfl;have y3:=zz.cell 3 _ rfl
    exact .inl ⟨.agg #[.int .i64 p,.int .i64 cc,.int .i64 h,.int .i64 s],W3,by simp only[execOp,Act.eval,e5];go_simp,Frm.refl _ _,hIW,rfl⟩
   ·exact .inl ⟨.pointer (some ⟨g,0,none⟩),W3,by simp only[execOp,Act.eval,e4];go_simp,Frm.refl _ _,hIW,rfl⟩
   ·have d1:a'.tmps.getD 15 undef = .pointer (some ⟨g,0,none⟩):=dep 1 (by omega) (by kernel_rfl)
    refine .inr ⟨154,#[.pointer (some ⟨g,0,none⟩),.int .i64 2],by simp only[execOp,Act.eval,d1];go_simp,?_⟩
    refine (some_next hIW (k:=2) (by omega)).mono ?_
    rintro e W' ⟨x,rfl,hx1,hx2,hs',hf'⟩
    exact⟨_,rfl,hf',hs',⟨x,rfl,hx1,hx2⟩⟩
   ·exact .inl ⟨.pointer (some ⟨g,0,none⟩),W3,by simp only[execOp,Act.eval,e4];go_simp,Frm.refl _ _,hIW,rfl⟩
   ·have d1:a'.tmps.getD 18 undef = .pointer (some ⟨g,0,none⟩):=dep 4 (by omega) (by kernel_rfl)
    refine .inr ⟨154,#[.pointer (some ⟨g,0,none⟩),.int .i64 16],by simp only[execOp,Act.eval,d1];go_simp,?_⟩
    refine (some_next hIW (k:=16) (by omega)).mono ?_
    rintro e W' ⟨x,rfl,hx1,hx2,hs',hf'⟩
    exact⟨_,rfl,hf',hs',⟨x,rfl,hx1,hx2⟩⟩
  intro u W2 hW hIW hg
  have g0:u 0 = .agg #[.int .i64 p,.int .i64 cc,.int .i64 h,.int .i64 s]:=hg 0 (by omega)
  have g1:u 1 = .pointer (some ⟨g,0,none⟩):=hg 1 (by omega)
  obtain⟨x2,g2,_⟩:IntP (fun x=>0≤x∧(x<2∨x=0)) (u 2) W2:=hg 2 (by omega)
  obtain⟨x3,g3,_⟩:(IntP (fun x=>0≤x∧x≤9)) (u 3) W2:=hg 3 (by omega)
  have g4:u 4 = .pointer (some ⟨g,0,none⟩):=hg 4 (by omega)
  obtain⟨x5,g5,_⟩:IntP (fun x=>0≤x∧(x<16∨x=0)) (u 5) W2:=hg 5 (by omega)
  obtain⟨x6,g6,_⟩:(IntP (fun x=>0≤x∧x≤9)) (u 6) W2:=hg 6 (by omega)
  obtain⟨x7,g7,_⟩:(IntP (fun _=>True)) (u 7) W2:=hg 7 (by omega)
  simp only[List.drop_succ_cons,List.drop_zero,putV,dsV5,g0,g1,g2,g3,g4,g5,g6,g7,Act.put]
  clear g0 g1 g2 g3 g4 g5 g6 g7 hg
  have HF9:=Lib.hid (HFV.out.outs hW (fun k hk=>by rw[hk];simp only[List.length_cons,List.length_nil];omega))
  clear HFV HSV HCV hlo;obtain⟨z0,c00,f00,c01,f01,c02,f02,c03,f03⟩:=HF9.out.xf2
  go_wp2_with (fail)
  refine bodyPost_ret (v:=.tuple #[.agg #[.int .i64 p,.int .i64 cc,.int .i64 h,.int .i64 s],.int .i64 x7]) (by simp[results,Tryz.results67,go_sem,z0,c00,c01,c02,c03,f00,f01,f02,f03]) rfl ?_
  refine⟨_,_,_,_,_,rfl,?_⟩
  repeat (with_reducible first|exact HF9.out.belowW|refine bd_set ?_ (by omega) _)
end Go.Proofs.YtkaiilmgemaljaaGreat

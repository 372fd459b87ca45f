/- Part of one proof. There are no conditions. -/
import Derived.Test.YtkaiilmgemaljaaGreatGP4
import Derived.Test.YtkaiilmgemaljaaGreatGP2
import Derived.Test.YtkaiilmgemaljaaGreatGM25
import Derived.Test.YtkaiilmgemaljaaGreatGD2
set_option maxHeartbeats 0
set_option linter.unusedVariables false
set_option linter.unusedSimpArgs false
set_option maxRecDepth 100000
namespace Go.Proofs.YtkaiilmgemaljaaGreat
open Go.RowKit Mo Ps Ra Ex
def ec:Nat->Nat
 | 0=>24
 | 1=>25
 | 2=>26
 | 3=>27
 | 4=>28
 | 5=>29
 | 6=>30
 | 7=>31
 | 8=>32
 | 9=>33
 | 10=>34
 | 11=>23
 | 12=>35
 | 13=>36
 | 14=>11
 | _=>0
def d9:Nat->Nat
 | 0=>42
 | 1=>43
 | 2=>44
 | 3=>45
 | 4=>46
 | 5=>47
 | 6=>48
 | 7=>49
 | 8=>50
 | 9=>41
 | 10=>51
 | 11=>52
 | 12=>15
 | _=>0
theorem cubeGain_law (p c h s km:Int) (kb kj:Bool) (cv co:Int) (A B:Option Addr) (n m ca cb:Nat) (own other:List Int) (w:World) (hown:SL w A n own) (hother:SL w B m other):
  Calls Tryz.prog 11 #[.agg #[.int .i64 p,.int .i64 c,.int .i64 h,.int .i64 s],.agg #[.int .i64 km,.bool kb,.bool kj],.slice A n ca,.slice B m cb,.agg #[.int .i64 cv,.int .i64 co]] w fun e w'=>e = .returned (.bool true)/\Below w.heap.size w w':=by
 have hV0:Bel w (((w.alloc (.cells #[.int .i64 p,.int .i64 c,.int .i64 h,.int .i64 s] 75)).alloc (.cells #[.int .i64 km,.bool kb,.bool kj] 76)).alloc (.cells #[.int .i64 cv,.int .i64 co] 77)):=(Bel.trans (Bel.trans (Bel.alloc _ _) (Bel.alloc _ _)) (Bel.alloc _ _))
 have C0:Cel (((w.alloc (.cells #[.int .i64 p,.int .i64 c,.int .i64 h,.int .i64 s] 75)).alloc (.cells #[.int .i64 km,.bool kb,.bool kj] 76)).alloc (.cells #[.int .i64 cv,.int .i64 co] 77)) (w.heap.size) [.int .i64 p,.int .i64 c,.int .i64 h,.int .i64 s]:=((Cel.new' _ _ _ (by simp)).alloc _).alloc _
 have C1:Cel (((w.alloc (.cells #[.int .i64 p,.int .i64 c,.int .i64 h,.int .i64 s] 75)).alloc (.cells #[.int .i64 km,.bool kb,.bool kj] 76)).alloc (.cells #[.int .i64 cv,.int .i64 co] 77)) (w.heap.size+1) [.int .i64 km,.bool kb,.bool kj]:=(Cel.new' _ _ _ (by simp)).alloc _
 have C2:Cel (((w.alloc (.cells #[.int .i64 p,.int .i64 c,.int .i64 h,.int .i64 s] 75)).alloc (.cells #[.int .i64 km,.bool kb,.bool kj] 76)).alloc (.cells #[.int .i64 cv,.int .i64 co] 77)) (w.heap.size+2) [.int .i64 cv,.int .i64 co]:=Cel.new' _ _ _ (by simp)
 have Sown:=hown.below hV0;have Lown:=h_ hown.1;clear hown;have Sother:=hother.below hV0;have Lother:=h_ hother.1;clear hother;have HB:=h_ hV0;clear hV0;replace C0:=h_ C0;replace C1:=h_ C1;replace C2:=h_ C2;replace Sown:=h_ Sown;replace Sother:=h_ Sother
 by_cases hn:(1048576:Int)<(n:Int)
 ·go_enter Tryz.func11,Tryz.ntmps11
  go_wp2
  go_ret
  exact⟨rfl,HB.out⟩
 by_cases hm:(1048576:Int)<(m:Int)
 ·go_enter Tryz.func11,Tryz.ntmps11
  go_wp2
  go_ret
  exact⟨rfl,HB.out⟩
 have hn':n<=2000000:=by omega
 have oown:own.length<=2000000:=by rw[Lown.out];exact hn'
 have hm':m<=2000000:=by omega
 have oother:other.length<=2000000:=by rw[Lother.out];exact hm'
 obtain⟨r,hr⟩:∃r,r=cgR p c h s km kb own other cv co:=⟨_,rfl⟩;obtain⟨r1,r2,r3⟩:=r
 have CS:Hid (∀(W:World) (X1 X2:Option Addr) (k1 k2:Nat),SL W X1 own.length own->SL W X2 other.length other->own.length<=k1->other.length<=k2->Calls Tryz.prog 54 #[.agg #[.int .i64 p,.int .i64 c,.int .i64 h,.int .i64 s],.agg #[.int .i64 km,.bool kb,.bool kj],.slice X1 own.length k1,.slice X2 other.length k2,.agg #[.int .i64 cv,.int .i64 co]] W fun e w'=>e = .returned (.tuple #[.agg #[.int .i64 r1,.int .i64 r2],.int .i64 r3])/\Below W.heap.size W w'):=fun W X1 X2 k1 k2 s1 s2 l1 l2=>by
  have:=jS p c h s km kb kj X1 X2 _ _ k1 k2 own other cv co W s1 s2 l1 l2;rw[<- hr]at this;exact this
 have CI:Hid (∀(W:World) (X1 X2:Option Addr) (k1 k2:Nat),SL W X1 own.length own->SL W X2 other.length other->own.length<=k1->other.length<=k2->Calls Tryz.prog 59 #[.agg #[.int .i64 p,.int .i64 c,.int .i64 h,.int .i64 s],.agg #[.int .i64 km,.bool kb,.bool kj],.slice X1 own.length k1,.slice X2 other.length k2,.agg #[.int .i64 cv,.int .i64 co]] W fun e w'=>e = .returned (.tuple #[.agg #[.int .i64 r1,.int .i64 r2],.int .i64 r3])/\Below W.heap.size W w'):=fun W X1 X2 k1 k2 s1 s2 l1 l2=>by
  have:=CubeGain_any p c h s km kb kj X1 X2 _ _ k1 k2 own other cv co W s1 s2 l1 l2;rw[<- hr]at this;exact this
 clear hr
 go_enter Tryz.func11,Tryz.ntmps11
 go_wp2_with (fail)
 generalize (((w.alloc (.cells #[.int .i64 p,.int .i64 c,.int .i64 h,.int .i64 s] 75)).alloc (.cells #[.int .i64 km,.bool kb,.bool kj] 76)).alloc (.cells #[.int .i64 cv,.int .i64 co] 77))=V at *
 refine bX 15 (fun i=>i == 13) ec Bel (fun _=>True) (GL [Eqv (.agg #[.int .i64 p,.int .i64 c,.int .i64 h,.int .i64 s]),Eqv (.agg #[.int .i64 p,.int .i64 c,.int .i64 h,.int .i64 s]),Eqv (.agg #[.int .i64 km,.bool kb,.bool kj]),Eqv (.agg #[.int .i64 km,.bool kb,.bool kj]),Eqv (.slice A n ca),Cpy own,Eqv (.slice B m cb),Cpy other,Eqv (.agg #[.int .i64 cv,.int .i64 co]),Eqv (.agg #[.int .i64 cv,.int .i64 co]),Eqv (.tuple #[.agg #[.int .i64 r1,.int .i64 r2],.int .i64 r3]),Eqv (.tuple #[.agg #[.int .i64 r1,.int .i64 r2],.int .i64 r3]),Eqv (.agg #[.int .i64 r1,.int .i64 r2]),Eqv (.int .i64 r3),Alc V.heap.size [.int .i64 0,.int .i64 0]]) (by kernel_rfl) (by kernel_rfl) (fun _ _ _ _ _ h=>h) (fun _ _ _ h1 h2=>Bel.trans h1 h2) Bel.rfl' (GL.stab (by repeat (first|exact AllStb.nil|refine AllStb.cons (by first|exact stb_eq _|exact stb_cpy _|exact stb_alc _ _) ?_))) (Bel.drew _) trivial ?_ ?_ ?_
 focus
  refine ?zc
 rotate_left
 focus
  refine ?zd
 rotate_left
 focus
  intro v V1 hW hIW hg
  have g0:v 0 = .agg #[.int .i64 p,.int .i64 c,.int .i64 h,.int .i64 s]:=hg 0 (by omega)
  have g1:v 1 = .agg #[.int .i64 p,.int .i64 c,.int .i64 h,.int .i64 s]:=hg 1 (by omega)
  have g2:v 2 = .agg #[.int .i64 km,.bool kb,.bool kj]:=hg 2 (by omega)
  have g3:v 3 = .agg #[.int .i64 km,.bool kb,.bool kj]:=hg 3 (by omega)
  have g4:v 4 = .slice A n ca:=hg 4 (by omega)
  obtain⟨_,_,g5,_,_⟩:Cpy own (v 5) V1:=hg 5 (by omega)
  have g6:v 6 = .slice B m cb:=hg 6 (by omega)
  obtain⟨_,_,g7,_,_⟩:Cpy other (v 7) V1:=hg 7 (by omega)
  have g8:v 8 = .agg #[.int .i64 cv,.int .i64 co]:=hg 8 (by omega)
  have g9:v 9 = .agg #[.int .i64 cv,.int .i64 co]:=hg 9 (by omega)
  have g10:v 10 = .tuple #[.agg #[.int .i64 r1,.int .i64 r2],.int .i64 r3]:=hg 10 (by omega)
  have g11:v 11 = .tuple #[.agg #[.int .i64 r1,.int .i64 r2],.int .i64 r3]:=hg 11 (by omega)
  have g12:v 12 = .agg #[.int .i64 r1,.int .i64 r2]:=hg 12 (by omega)
  have g13:v 13 = .int .i64 r3:=hg 13 (by omega)
  obtain⟨gs0,g14,glgs0,Ags0⟩:Alc V.heap.size [.int .i64 0,.int .i64 0] (v 14) V1:=hg 14 (by omega)
  simp only[List.drop_succ_cons,List.drop_zero,putV,ec,g0,g1,g2,g3,g4,g5,g6,g7,g8,g9,g10,g11,g12,g13,g14,Act.put]
  clear g0 g1 g2 g3 g4 g5 g6 g7 g8 g9 g10 g11 g12 g13 g14 hg hIW;replace hW:=h_ hW;have ygs0_0:=Ags0.cell 0 _ rfl;have xgs0_0:=Ags0.froz 0 _ rfl;have ygs0_1:=Ags0.cell 1 _ rfl;have xgs0_1:=Ags0.froz 1 _ rfl;have ylgs0:=Ags0.lt;replace Ags0:=h_ Ags0
  go_wp2_with (fail)
  obtain⟨V2,hV⟩:∃V,V=((V1.setCell ⟨gs0,0,none⟩ (.int .i64 r1)).setCell ⟨gs0,1,none⟩ (.int .i64 r2)):=⟨_,rfl⟩;rw[<- hV]
  have hb:Below V.heap.size V V2:=by rw[hV];exact (Below.setCell (p:=⟨gs0,1,none⟩) (Below.setCell (p:=⟨gs0,0,none⟩) hW.out glgs0 _) glgs0 _)
  have Ggs0:Hid (Cel V2 gs0 [.int .i64 r1,.int .i64 r2]):=by rw[hV];exact ((Ags0.out.st (by simp)).st (by simp))
  clear hV hW Ags0 ylgs0 ygs0_0 xgs0_0 ygs0_1 xgs0_1;replace C0:=h_ (C0.out.below hb);replace C1:=h_ (C1.out.below hb);replace C2:=h_ (C2.out.below hb);replace Sown:=h_ (Sown.out.below hb);replace Sother:=h_ (Sother.out.below hb);replace HB:=h_ (Bel.trans HB.out hb);clear hb
  refine (bT _ _ _ _ _ Sown.out hn').mono ?_
  rintro e V3 ⟨Y1,y1,rfl,ho,hb⟩
  have T1:=h_ (ho.sl rfl).1;have T1k:=h_ (ho.sl rfl).2;clear ho;replace C0:=h_ (C0.out.below hb);replace C1:=h_ (C1.out.below hb);replace C2:=h_ (C2.out.below hb);replace Ggs0:=h_ (Ggs0.out.below hb);replace Sown:=h_ (Sown.out.below hb);replace Sother:=h_ (Sother.out.below hb);replace HB:=h_ (Bel.trans HB.out hb);clear hb
  go_wp2_with (fail)
  refine (bT _ _ _ _ _ Sother.out hm').mono ?_
  rintro e V4 ⟨Y2,y2,rfl,ho,hb⟩
  have T2:=h_ (ho.sl rfl).1;have T2k:=h_ (ho.sl rfl).2;clear ho;replace C0:=h_ (C0.out.below hb);replace C1:=h_ (C1.out.below hb);replace C2:=h_ (C2.out.below hb);replace Ggs0:=h_ (Ggs0.out.below hb);replace Sown:=h_ (Sown.out.below hb);replace Sother:=h_ (Sother.out.below hb);replace T1:=h_ (T1.out.below hb);replace HB:=h_ (Bel.trans HB.out hb);clear hb
  go_wp2_with (fail)
  refine bX 13 (fun i=>i == 11) d9 Bel (fun _=>True) (GL [Eqv (.agg #[.int .i64 p,.int .i64 c,.int .i64 h,.int .i64 s]),Eqv (.agg #[.int .i64 p,.int .i64 c,.int .i64 h,.int .i64 s]),Eqv (.agg #[.int .i64 km,.bool kb,.bool kj]),Eqv (.agg #[.int .i64 km,.bool kb,.bool kj]),Eqv (.slice Y1 own.length y1),Eqv (.slice Y2 other.length y2),Eqv (.agg #[.int .i64 cv,.int .i64 co]),Eqv (.agg #[.int .i64 cv,.int .i64 co]),Eqv (.tuple #[.agg #[.int .i64 r1,.int .i64 r2],.int .i64 r3]),Eqv (.tuple #[.agg #[.int .i64 r1,.int .i64 r2],.int .i64 r3]),Eqv (.agg #[.int .i64 r1,.int .i64 r2]),Eqv (.int .i64 r3),Alc V4.heap.size [.int .i64 0,.int .i64 0]]) (by kernel_rfl) (by kernel_rfl) (fun _ _ _ _ _ h=>h) (fun _ _ _ h1 h2=>Bel.trans h1 h2) Bel.rfl' (GL.stab (by repeat (first|exact AllStb.nil|refine AllStb.cons (by first|exact stb_eq _|exact stb_cpy _|exact stb_alc _ _) ?_))) (Bel.drew _) trivial ?_ ?_ ?_
  focus
   refine ?za
  rotate_left
  focus
   refine ?zb
  rotate_left
  focus
   intro v V5 hW hIW hg
   have g0:v 0 = .agg #[.int .i64 p,.int .i64 c,.int .i64 h,.int .i64 s]:=hg 0 (by omega)
   have g1:v 1 = .agg #[.int .i64 p,.int .i64 c,.int .i64 h,.int .i64 s]:=hg 1 (by omega)
   have g2:v 2 = .agg #[.int .i64 km,.bool kb,.bool kj]:=hg 2 (by omega)
   have g3:v 3 = .agg #[.int .i64 km,.bool kb,.bool kj]:=hg 3 (by omega)
   have g4:v 4 = .slice Y1 own.length y1:=hg 4 (by omega)
   have g5:v 5 = .slice Y2 other.length y2:=hg 5 (by omega)
   have g6:v 6 = .agg #[.int .i64 cv,.int .i64 co]:=hg 6 (by omega)
   have g7:v 7 = .agg #[.int .i64 cv,.int .i64 co]:=hg 7 (by omega)
   have g8:v 8 = .tuple #[.agg #[.int .i64 r1,.int .i64 r2],.int .i64 r3]:=hg 8 (by omega)
   have g9:v 9 = .tuple #[.agg #[.int .i64 r1,.int .i64 r2],.int .i64 r3]:=hg 9 (by omega)
   have g10:v 10 = .agg #[.int .i64 r1,.int .i64 r2]:=hg 10 (by omega)
   have g11:v 11 = .int .i64 r3:=hg 11 (by omega)
   obtain⟨gi0,g12,glgi0,Agi0⟩:Alc V4.heap.size [.int .i64 0,.int .i64 0] (v 12) V5:=hg 12 (by omega)
   simp only[List.drop_succ_cons,List.drop_zero,putV,d9,g0,g1,g2,g3,g4,g5,g6,g7,g8,g9,g10,g11,g12,Act.put]
   clear g0 g1 g2 g3 g4 g5 g6 g7 g8 g9 g10 g11 g12 hg hIW;replace hW:=h_ hW;have ygi0_0:=Agi0.cell 0 _ rfl;have xgi0_0:=Agi0.froz 0 _ rfl;have ygi0_1:=Agi0.cell 1 _ rfl;have xgi0_1:=Agi0.froz 1 _ rfl;have ylgi0:=Agi0.lt;replace Agi0:=h_ Agi0;have qGgs0:=Ggs0.out.below hW.out;have cGgs0_0:=qGgs0.cell 0 _ rfl;have cGgs0_1:=qGgs0.cell 1 _ rfl;have zGgs0:=qGgs0.lt
   have nGgs0gi0:gs0<gi0:=by have:=Ggs0.out.lt;omega
   go_wp2_with (fail)
   obtain⟨V6,hV⟩:∃V,V=((V5.setCell ⟨gi0,0,none⟩ (.int .i64 r1)).setCell ⟨gi0,1,none⟩ (.int .i64 r2)):=⟨_,rfl⟩;rw[<- hV]
   have hb:Below V4.heap.size V4 V6:=by rw[hV];exact (Below.setCell (p:=⟨gi0,1,none⟩) (Below.setCell (p:=⟨gi0,0,none⟩) hW.out glgi0 _) glgi0 _)
   have Ggi0:Hid (Cel V6 gi0 [.int .i64 r1,.int .i64 r2]):=by rw[hV];exact ((Agi0.out.st (by simp)).st (by simp))
   clear cGgs0_0 cGgs0_1 zGgs0 qGgs0 nGgs0gi0;clear hV hW Agi0 ylgi0 ygi0_0 xgi0_0 ygi0_1 xgi0_1;replace C0:=h_ (C0.out.below hb);replace C1:=h_ (C1.out.below hb);replace C2:=h_ (C2.out.below hb);replace Ggs0:=h_ (Ggs0.out.below hb);replace Sown:=h_ (Sown.out.below hb);replace Sother:=h_ (Sother.out.below hb);replace T1:=h_ (T1.out.below hb);replace T2:=h_ (T2.out.below hb);replace HB:=h_ (Bel.trans HB.out hb);clear hb
   have nr3:(r3 != r3)=false:=by simp
   refine (eqExact_own _ _ _).mono ?_
   rintro e V7 ⟨rfl,hb⟩
   replace C0:=h_ (C0.out.below hb);replace C1:=h_ (C1.out.below hb);replace C2:=h_ (C2.out.below hb);replace Ggs0:=h_ (Ggs0.out.below hb);replace Ggi0:=h_ (Ggi0.out.below hb);replace Sown:=h_ (Sown.out.below hb);replace Sother:=h_ (Sother.out.below hb);replace T1:=h_ (T1.out.below hb);replace T2:=h_ (T2.out.below hb);replace HB:=h_ (Bel.trans HB.out hb);clear hb;have cGgs0_0:=Ggs0.out.cell 0 _ rfl;have cGgs0_1:=Ggs0.out.cell 1 _ rfl;have zGgs0:=Ggs0.out.lt;have cGgi0_0:=Ggi0.out.cell 0 _ rfl;have cGgi0_1:=Ggi0.out.cell 1 _ rfl;have zGgi0:=Ggi0.out.lt
   go_wp2_with (fail)
   refine (bT _ _ _ _ _ Sown.out hn').mono ?_
   rintro e V8 ⟨Z1,u1,rfl,ho,hb⟩
   have U:=h_ (ho.sl rfl).1;clear ho;replace C0:=h_ (C0.out.below hb);replace C1:=h_ (C1.out.below hb);replace C2:=h_ (C2.out.below hb);replace Ggs0:=h_ (Ggs0.out.below hb);replace Ggi0:=h_ (Ggi0.out.below hb);replace Sown:=h_ (Sown.out.below hb);replace Sother:=h_ (Sother.out.below hb);replace T1:=h_ (T1.out.below hb);replace T2:=h_ (T2.out.below hb);replace HB:=h_ (Bel.trans HB.out hb);clear hb
   go_wp2_with (fail)
   refine (gX _ _ _ _ _ _ _ T1.out U.out oown).mono ?_
   rintro e V9 ⟨rfl,hb⟩
   replace C0:=h_ (C0.out.below hb);replace C1:=h_ (C1.out.below hb);replace C2:=h_ (C2.out.below hb);replace Ggs0:=h_ (Ggs0.out.below hb);replace Ggi0:=h_ (Ggi0.out.below hb);replace Sown:=h_ (Sown.out.below hb);replace Sother:=h_ (Sother.out.below hb);replace T1:=h_ (T1.out.below hb);replace T2:=h_ (T2.out.below hb);replace U:=h_ (U.out.below hb);replace HB:=h_ (Bel.trans HB.out hb);clear hb;clear U
   go_wp2_with (fail)
   refine (bT _ _ _ _ _ Sother.out hm').mono ?_
   rintro e V10 ⟨Z2,u2,rfl,ho,hb⟩
   have U:=h_ (ho.sl rfl).1;clear ho;replace C0:=h_ (C0.out.below hb);replace C1:=h_ (C1.out.below hb);replace C2:=h_ (C2.out.below hb);replace Ggs0:=h_ (Ggs0.out.below hb);replace Ggi0:=h_ (Ggi0.out.below hb);replace Sown:=h_ (Sown.out.below hb);replace Sother:=h_ (Sother.out.below hb);replace T1:=h_ (T1.out.below hb);replace T2:=h_ (T2.out.below hb);replace HB:=h_ (Bel.trans HB.out hb);clear hb
   go_wp2_with (fail)
   refine (gX _ _ _ _ _ _ _ T2.out U.out oother).mono ?_
   rintro e V11 ⟨rfl,hb⟩
   replace C0:=h_ (C0.out.below hb);replace C1:=h_ (C1.out.below hb);replace C2:=h_ (C2.out.below hb);replace Ggs0:=h_ (Ggs0.out.below hb);replace Ggi0:=h_ (Ggi0.out.below hb);replace Sown:=h_ (Sown.out.below hb);replace Sother:=h_ (Sother.out.below hb);replace T1:=h_ (T1.out.below hb);replace T2:=h_ (T2.out.below hb);replace U:=h_ (U.out.below hb);replace HB:=h_ (Bel.trans HB.out hb);clear hb;clear U
   go_wp2_with (fail)
   go_ret
   exact⟨rfl,HB.out⟩
 case' zc|zd=>
  intro i o hi hX ho a' W hW hIW hfar hdep
  have e2:a'.tmps.getD 2 undef = .slice A n ca:=(hfar 2 (by decide)).trans rfl
  have e3:a'.tmps.getD 3 undef = .slice B m cb:=(hfar 3 (by decide)).trans rfl
 case' za|zb=>
  intro i o hi hX ho a' W hW hIW hfar hdep
 case' zc|zd|za|zb=>
  have e5:a'.tmps.getD 5 undef = .pointer (some ⟨w.heap.size,0,none⟩):=(hfar 5 (by decide)).trans rfl
  have e6:a'.tmps.getD 6 undef = .pointer (some ⟨w.heap.size+1,0,none⟩):=(hfar 6 (by decide)).trans rfl
  have e9:a'.tmps.getD 9 undef = .pointer (some ⟨w.heap.size+2,0,none⟩):=(hfar 9 (by decide)).trans rfl
 case' zc|zd=>
  have dep:∀j,j<15->Region.waitsFor .any _ i j=true->GL [Eqv (.agg #[.int .i64 p,.int .i64 c,.int .i64 h,.int .i64 s]),Eqv (.agg #[.int .i64 p,.int .i64 c,.int .i64 h,.int .i64 s]),Eqv (.agg #[.int .i64 km,.bool kb,.bool kj]),Eqv (.agg #[.int .i64 km,.bool kb,.bool kj]),Eqv (.slice A n ca),Cpy own,Eqv (.slice B m cb),Cpy other,Eqv (.agg #[.int .i64 cv,.int .i64 co]),Eqv (.agg #[.int .i64 cv,.int .i64 co]),Eqv (.tuple #[.agg #[.int .i64 r1,.int .i64 r2],.int .i64 r3]),Eqv (.tuple #[.agg #[.int .i64 r1,.int .i64 r2],.int .i64 r3]),Eqv (.agg #[.int .i64 r1,.int .i64 r2]),Eqv (.int .i64 r3),Alc V.heap.size [.int .i64 0,.int .i64 0]] j (a'.tmps.getD (ec j) undef) W:=hdep
 case zc=>
  have hi8:i=13:=by simpa using hX
  clear hfar hdep hX hi;subst hi8
  simp at ho
  subst ho
  ·have d1:a'.tmps.getD 23 undef = .tuple #[.agg #[.int .i64 r1,.int .i64 r2],.int .i64 r3]:=dep 11 (by omega) (by kernel_rfl)
   exact⟨.int .i64 r3,fun W'=>by simp only[execOp,Act.eval,d1];go_simp,rfl⟩
 case zd=>
  have hi8:i=0\/i=1\/i=2\/i=3\/i=4\/i=5\/i=6\/i=7\/i=8\/i=9\/i=10\/i=11\/i=12\/i=14:=by simp at hX;omega
  clear hfar hdep hX hi
  rcases hi8 with rfl|rfl|rfl|rfl|rfl|rfl|rfl|rfl|rfl|rfl|rfl|rfl|rfl|rfl
  all_goals (simp at ho;subst ho)
  ·have zz:=C0.out.below hW
   have z0:=zz.cell 0 _ rfl;have z1:=zz.cell 1 _ rfl;have z2:=zz.cell 2 _ rfl;have z3:=zz.cell 3 _ rfl
   exact .inl ⟨.agg #[.int .i64 p,.int .i64 c,.int .i64 h,.int .i64 s],W,by simp only[execOp,Act.eval,e5];go_simp,Bel.rfl' _,trivial,rfl⟩
  ·have d1:a'.tmps.getD 24 undef = .agg #[.int .i64 p,.int .i64 c,.int .i64 h,.int .i64 s]:=dep 0 (by omega) (by kernel_rfl)
   refine .inr ⟨55,#[.agg #[.int .i64 p,.int .i64 c,.int .i64 h,.int .i64 s]],by simp only[execOp,Act.eval,d1];go_simp,?_⟩
   refine (fT _ _ _ _ _).mono ?_
   rintro e W' ⟨rfl,hb'⟩
   exact⟨_,rfl,hb',trivial,rfl⟩
  ·have zz:=C1.out.below hW
   have z0:=zz.cell 0 _ rfl;have z1:=zz.cell 1 _ rfl;have z2:=zz.cell 2 _ rfl
   exact .inl ⟨.agg #[.int .i64 km,.bool kb,.bool kj],W,by simp only[execOp,Act.eval,e6];go_simp,Bel.rfl' _,trivial,rfl⟩
  ·have d1:a'.tmps.getD 26 undef = .agg #[.int .i64 km,.bool kb,.bool kj]:=dep 2 (by omega) (by kernel_rfl)
   refine .inr ⟨56,#[.agg #[.int .i64 km,.bool kb,.bool kj]],by simp only[execOp,Act.eval,d1];go_simp,?_⟩
   refine (ep _ _ _ _).mono ?_
   rintro e W' ⟨rfl,hb'⟩
   exact⟨_,rfl,hb',trivial,rfl⟩
  ·exact .inl ⟨.slice A n ca,W,by simp only[execOp,Act.eval,e2];go_simp,Bel.rfl' _,trivial,rfl⟩
  ·have d1:a'.tmps.getD 28 undef = .slice A n ca:=dep 4 (by omega) (by kernel_rfl)
   refine .inr ⟨57,#[.slice A n ca],by simp only[execOp,Act.eval,d1];go_simp,?_⟩
   refine (bT _ _ _ _ _ (Sown.out.below hW) hn').mono ?_
   rintro e W' ⟨X1,k1,rfl,ho1,hb'⟩
   exact⟨_,rfl,hb',trivial,X1,k1,rfl,(ho1.sl rfl).1,(ho1.sl rfl).2⟩
  ·exact .inl ⟨.slice B m cb,W,by simp only[execOp,Act.eval,e3];go_simp,Bel.rfl' _,trivial,rfl⟩
  ·have d1:a'.tmps.getD 30 undef = .slice B m cb:=dep 6 (by omega) (by kernel_rfl)
   refine .inr ⟨57,#[.slice B m cb],by simp only[execOp,Act.eval,d1];go_simp,?_⟩
   refine (bT _ _ _ _ _ (Sother.out.below hW) hm').mono ?_
   rintro e W' ⟨X1,k1,rfl,ho1,hb'⟩
   exact⟨_,rfl,hb',trivial,X1,k1,rfl,(ho1.sl rfl).1,(ho1.sl rfl).2⟩
  ·have zz:=C2.out.below hW
   have z0:=zz.cell 0 _ rfl;have z1:=zz.cell 1 _ rfl
   exact .inl ⟨.agg #[.int .i64 cv,.int .i64 co],W,by simp only[execOp,Act.eval,e9];go_simp,Bel.rfl' _,trivial,rfl⟩
  ·have d1:a'.tmps.getD 32 undef = .agg #[.int .i64 cv,.int .i64 co]:=dep 8 (by omega) (by kernel_rfl)
   refine .inr ⟨58,#[.agg #[.int .i64 cv,.int .i64 co]],by simp only[execOp,Act.eval,d1];go_simp,?_⟩
   refine (jl _ _ _).mono ?_
   rintro e W' ⟨rfl,hb'⟩
   exact⟨_,rfl,hb',trivial,rfl⟩
  ·have d25:a'.tmps.getD 25 undef = .agg #[.int .i64 p,.int .i64 c,.int .i64 h,.int .i64 s]:=dep 1 (by omega) (by kernel_rfl)
   have d27:a'.tmps.getD 27 undef = .agg #[.int .i64 km,.bool kb,.bool kj]:=dep 3 (by omega) (by kernel_rfl)
   obtain⟨X1,k1,d29,s1,l1⟩:Cpy own (a'.tmps.getD 29 undef) W:=dep 5 (by omega) (by kernel_rfl)
   obtain⟨X2,k2,d31,s2,l2⟩:Cpy other (a'.tmps.getD 31 undef) W:=dep 7 (by omega) (by kernel_rfl)
   have d33:a'.tmps.getD 33 undef = .agg #[.int .i64 cv,.int .i64 co]:=dep 9 (by omega) (by kernel_rfl)
   refine .inr ⟨54,#[.agg #[.int .i64 p,.int .i64 c,.int .i64 h,.int .i64 s],.agg #[.int .i64 km,.bool kb,.bool kj],.slice X1 own.length k1,.slice X2 other.length k2,.agg #[.int .i64 cv,.int .i64 co]],by simp only[execOp,Act.eval,d25,d27,d29,d31,d33];go_simp,?_⟩
   refine (CS.out W X1 X2 k1 k2 s1 s2 l1 l2).mono ?_
   rintro e W' ⟨rfl,hb'⟩
   exact⟨_,rfl,hb',trivial,rfl⟩
  ·have d1:a'.tmps.getD 34 undef = .tuple #[.agg #[.int .i64 r1,.int .i64 r2],.int .i64 r3]:=dep 10 (by omega) (by kernel_rfl)
   exact .inl ⟨.tuple #[.agg #[.int .i64 r1,.int .i64 r2],.int .i64 r3],W,by simp only[execOp,Act.eval,d1];go_simp,Bel.rfl' _,trivial,rfl⟩
  ·have d1:a'.tmps.getD 23 undef = .tuple #[.agg #[.int .i64 r1,.int .i64 r2],.int .i64 r3]:=dep 11 (by omega) (by kernel_rfl)
   exact .inl ⟨.agg #[.int .i64 r1,.int .i64 r2],W,by simp only[execOp,Act.eval,d1];go_simp,Bel.rfl' _,trivial,rfl⟩
  ·exact .inl ⟨.pointer (some ⟨W.heap.size,0,none⟩),W.alloc (.cells #[.int .i64 0,.int .i64 0] 35),by kernel_rfl,Bel.alloc _ _,trivial,alc_new _ _ _ (Below.size hW)⟩
 case' za|zb=>
  have e13:a'.tmps.getD 13 undef = .slice Y1 own.length y1:=(hfar 13 (by decide)).trans rfl
  have e14:a'.tmps.getD 14 undef = .slice Y2 other.length y2:=(hfar 14 (by decide)).trans rfl
  have dep:∀j,j<13->Region.waitsFor .any _ i j=true->GL [Eqv (.agg #[.int .i64 p,.int .i64 c,.int .i64 h,.int .i64 s]),Eqv (.agg #[.int .i64 p,.int .i64 c,.int .i64 h,.int .i64 s]),Eqv (.agg #[.int .i64 km,.bool kb,.bool kj]),Eqv (.agg #[.int .i64 km,.bool kb,.bool kj]),Eqv (.slice Y1 own.length y1),Eqv (.slice Y2 other.length y2),Eqv (.agg #[.int .i64 cv,.int .i64 co]),Eqv (.agg #[.int .i64 cv,.int .i64 co]),Eqv (.tuple #[.agg #[.int .i64 r1,.int .i64 r2],.int .i64 r3]),Eqv (.tuple #[.agg #[.int .i64 r1,.int .i64 r2],.int .i64 r3]),Eqv (.agg #[.int .i64 r1,.int .i64 r2]),Eqv (.int .i64 r3),Alc V4.heap.size [.int .i64 0,.int .i64 0]] j (a'.tmps.getD (d9 j) undef) W:=hdep
 case za=>
  have hi8:i=11:=by simpa using hX
  clear hfar hdep hX hi;subst hi8
  simp at ho
  subst ho
  ·have d1:a'.tmps.getD 41 undef = .tuple #[.agg #[.int .i64 r1,.int .i64 r2],.int .i64 r3]:=dep 9 (by omega) (by kernel_rfl)
   exact⟨.int .i64 r3,fun W'=>by simp only[execOp,Act.eval,d1];go_simp,rfl⟩
 case zb=>
  have hi8:i=0\/i=1\/i=2\/i=3\/i=4\/i=5\/i=6\/i=7\/i=8\/i=9\/i=10\/i=12:=by simp at hX;omega
  clear hfar hdep hX hi
  rcases hi8 with rfl|rfl|rfl|rfl|rfl|rfl|rfl|rfl|rfl|rfl|rfl|rfl
  all_goals (simp at ho;subst ho)
  ·have zz:=C0.out.below hW
   have z0:=zz.cell 0 _ rfl;have z1:=zz.cell 1 _ rfl;have z2:=zz.cell 2 _ rfl;have z3:=zz.cell 3 _ rfl
   exact .inl ⟨.agg #[.int .i64 p,.int .i64 c,.int .i64 h,.int .i64 s],W,by simp only[execOp,Act.eval,e5];go_simp,Bel.rfl' _,trivial,rfl⟩
  ·have d1:a'.tmps.getD 42 undef = .agg #[.int .i64 p,.int .i64 c,.int .i64 h,.int .i64 s]:=dep 0 (by omega) (by kernel_rfl)
   refine .inr ⟨55,#[.agg #[.int .i64 p,.int .i64 c,.int .i64 h,.int .i64 s]],by simp only[execOp,Act.eval,d1];go_simp,?_⟩
   refine (fT _ _ _ _ _).mono ?_
   rintro e W' ⟨rfl,hb'⟩
   exact⟨_,rfl,hb',trivial,rfl⟩
  ·have zz:=C1.out.below hW
   have z0:=zz.cell 0 _ rfl;have z1:=zz.cell 1 _ rfl;have z2:=zz.cell 2 _ rfl
   exact .inl ⟨.agg #[.int .i64 km,.bool kb,.bool kj],W,by simp only[execOp,Act.eval,e6];go_simp,Bel.rfl' _,trivial,rfl⟩
  ·have d1:a'.tmps.getD 44 undef = .agg #[.int .i64 km,.bool kb,.bool kj]:=dep 2 (by omega) (by kernel_rfl)
   refine .inr ⟨56,#[.agg #[.int .i64 km,.bool kb,.bool kj]],by simp only[execOp,Act.eval,d1];go_simp,?_⟩
   refine (ep _ _ _ _).mono ?_
   rintro e W' ⟨rfl,hb'⟩
   exact⟨_,rfl,hb',trivial,rfl⟩
  ·exact .inl ⟨.slice Y1 own.length y1,W,by simp only[execOp,Act.eval,e13];go_simp,Bel.rfl' _,trivial,rfl⟩
  ·exact .inl ⟨.slice Y2 other.length y2,W,by simp only[execOp,Act.eval,e14];go_simp,Bel.rfl' _,trivial,rfl⟩
  ·have zz:=C2.out.below hW
   have z0:=zz.cell 0 _ rfl;have z1:=zz.cell 1 _ rfl
   exact .inl ⟨.agg #[.int .i64 cv,.int .i64 co],W,by simp only[execOp,Act.eval,e9];go_simp,Bel.rfl' _,trivial,rfl⟩
  ·have d1:a'.tmps.getD 48 undef = .agg #[.int .i64 cv,.int .i64 co]:=dep 6 (by omega) (by kernel_rfl)
   refine .inr ⟨58,#[.agg #[.int .i64 cv,.int .i64 co]],by simp only[execOp,Act.eval,d1];go_simp,?_⟩
   refine (jl _ _ _).mono ?_
   rintro e W' ⟨rfl,hb'⟩
   exact⟨_,rfl,hb',trivial,rfl⟩
  ·have d43:a'.tmps.getD 43 undef = .agg #[.int .i64 p,.int .i64 c,.int .i64 h,.int .i64 s]:=dep 1 (by omega) (by kernel_rfl)
   have d45:a'.tmps.getD 45 undef = .agg #[.int .i64 km,.bool kb,.bool kj]:=dep 3 (by omega) (by kernel_rfl)
   have d46:a'.tmps.getD 46 undef = .slice Y1 own.length y1:=dep 4 (by omega) (by kernel_rfl)
   have d47:a'.tmps.getD 47 undef = .slice Y2 other.length y2:=dep 5 (by omega) (by kernel_rfl)
   have d49:a'.tmps.getD 49 undef = .agg #[.int .i64 cv,.int .i64 co]:=dep 7 (by omega) (by kernel_rfl)
   refine .inr ⟨59,#[.agg #[.int .i64 p,.int .i64 c,.int .i64 h,.int .i64 s],.agg #[.int .i64 km,.bool kb,.bool kj],.slice Y1 own.length y1,.slice Y2 other.length y2,.agg #[.int .i64 cv,.int .i64 co]],by simp only[execOp,Act.eval,d43,d45,d46,d47,d49];go_simp,?_⟩
   refine (CI.out W _ _ _ _ (T1.out.below hW) (T2.out.below hW) T1k.out T2k.out).mono ?_
   rintro e W' ⟨rfl,hb'⟩
   exact⟨_,rfl,hb',trivial,rfl⟩
  ·have d1:a'.tmps.getD 50 undef = .tuple #[.agg #[.int .i64 r1,.int .i64 r2],.int .i64 r3]:=dep 8 (by omega) (by kernel_rfl)
   exact .inl ⟨.tuple #[.agg #[.int .i64 r1,.int .i64 r2],.int .i64 r3],W,by simp only[execOp,Act.eval,d1];go_simp,Bel.rfl' _,trivial,rfl⟩
  ·have d1:a'.tmps.getD 41 undef = .tuple #[.agg #[.int .i64 r1,.int .i64 r2],.int .i64 r3]:=dep 9 (by omega) (by kernel_rfl)
   exact .inl ⟨.agg #[.int .i64 r1,.int .i64 r2],W,by simp only[execOp,Act.eval,d1];go_simp,Bel.rfl' _,trivial,rfl⟩
  ·exact .inl ⟨.pointer (some ⟨W.heap.size,0,none⟩),W.alloc (.cells #[.int .i64 0,.int .i64 0] 35),by kernel_rfl,Bel.alloc _ _,trivial,alc_new _ _ _ (Below.size hW)⟩
end Go.Proofs.YtkaiilmgemaljaaGreat

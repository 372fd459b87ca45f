/- Part of one proof. There are no conditions. -/
import Derived.Test.YtgjapehpkakkbaaGreatDM54
set_option linter.unusedVariables false
set_option linter.unusedSimpArgs false
namespace Go.Proofs.YtgjapehpkakkbaaGreat
open Go.RowKit Mo Ps Ra Ex
set_option maxRecDepth 100000 in
set_option maxHeartbeats 2000000 in
theorem DoublingError_any (p c h s m:Int) (bv j:Bool) (A B:Option Addr) (n k ca cb:Nat) (own other:List Int) (v o a:Int) (w:World) (hA:SL w A n own) (hB:SL w B k other) (hca:n≤ca) (hcb:k≤cb):
  Calls Tryz.prog 57 #[.agg #[.int .i64 p,.int .i64 c,.int .i64 h,.int .i64 s],.agg #[.int .i64 m,.bool bv,.bool j],.slice A n ca,.slice B k cb,.agg #[.int .i64 v,.int .i64 o],.int .i64 a] w (RetN w (deR p c h s m bv own other v o a)):=by
 have HF0:Hid (Fr w ((((w.alloc (.cells #[.int .i64 p,.int .i64 c,.int .i64 h,.int .i64 s] 25)).alloc (.cells #[.int .i64 m,.bool bv,.bool j] 59)).alloc (.cells #[.int .i64 v,.int .i64 o] 62)).alloc (.cells #[.int .i64 0,.int .i64 0] 35)) [[.int .i64 p,.int .i64 c,.int .i64 h,.int .i64 s],[.int .i64 m,.bool bv,.bool j],[.int .i64 v,.int .i64 o],[.int .i64 0,.int .i64 0]]):=((((Fr.start w).allocT (by simp) _ _).allocT (by simp) _ _).allocT (by simp) _ _).allocT (by simp) _ _
 have CE:=h_ (choiceErrors_any p c h s m bv j A B n k ca cb own other v o a _ (hA.below HF0.out.b) (hB.below HF0.out.b) hca hcb);have HR:Hid (deR p c h s m bv own other v o a=((erR p c h s m bv own other v o a).1.1,(erR p c h s m bv own other v o a).1.2,(erR p c h s m bv own other v o a).2.2)):=rfl;generalize deR p c h s m bv own other v o a=rr at *;generalize erR p c h s m bv own other v o a=q at *;obtain⟨⟨l1,l2⟩,⟨g1,g2⟩,kk⟩:=q;clear hA hB
 go_enter Tryz.func57,Tryz.ntmps57
 go_wp2_with (fail)
 refine CE.out.mono ?_
 rintro e w1 ⟨rfl,hb1⟩
 have HF2:=h_ (HF0.out.below hb1);clear CE hb1 HF0
 have hz:w.heap.size+4≤w1.heap.size:=by have:=HF2.out.z;simpa using this
 obtain⟨z0,c00,f00,c01,f01,c02,f02,c03,f03,z1,c10,f10,c11,f11,c12,f12,z2,c20,f20,c21,f21,z3,c30,f30,c31,f31⟩:=HF2.out.xf9
 go_wp2_with (fail)
 have C3:Cel w1 (w.heap.size+1+1+1) [.int .i64 0,.int .i64 0]:=⟨HF2.out.l3 (by simp),fun i x hx=>HF2.out.c3 i (by simpa[frAt]using hx),fun i x hx=>HF2.out.f3 i (v:=x) (by simpa[frAt]using hx)⟩
 obtain⟨W,hW⟩:∃W,W=((((w1.setCell ⟨w.heap.size+1+1+1,0,none⟩ (.int .i64 l1)).setCell ⟨w.heap.size+1+1+1,1,none⟩ (.int .i64 l2)).alloc (.cells #[.int .i64 l1,.int .i64 l2] 35)).alloc (.cells #[.int .i64 g1,.int .i64 g2] 35)):=⟨_,rfl⟩
 have CW:Cel W (w.heap.size+1+1+1) [.int .i64 l1,.int .i64 l2]:=by rw[hW];exact (((C3.st (by simp)).st (by simp)).alloc _).alloc _
 have HBW:Hid (Below w.heap.size w W):=by
  rw[hW]
  repeat (first|with_reducible exact HF2.out.b|with_reducible refine drw ?_|with_reducible refine stw ?_ (by omega)|refine Below.alloc ?_ (by simp<;>omega) _)
 rw[← hW];clear hW C3;have q0:=CW.cell 0 _ rfl;have q1:=CW.cell 1 _ rfl
 exact bodyPost_ret (v:=.tuple #[.agg #[.int .i64 l1,.int .i64 l2],.int .i64 kk]) (by simp[results,Tryz.results57,go_sem,q0,q1]) rfl (RetN.mk' HR.out HBW.out)
set_option maxRecDepth 100000 in
set_option maxHeartbeats 2000000 in
theorem ReplyError_any (p c h s m:Int) (bv j:Bool) (A B:Option Addr) (n k ca cb:Nat) (own other:List Int) (v o a:Int) (w:World) (hA:SL w A n own) (hB:SL w B k other) (hca:n≤ca) (hcb:k≤cb):
  Calls Tryz.prog 59 #[.agg #[.int .i64 p,.int .i64 c,.int .i64 h,.int .i64 s],.agg #[.int .i64 m,.bool bv,.bool j],.slice A n ca,.slice B k cb,.agg #[.int .i64 v,.int .i64 o],.int .i64 a] w (RetN w (reR p c h s m bv own other v o a)):=by
 have HF0:Hid (Fr w ((((w.alloc (.cells #[.int .i64 p,.int .i64 c,.int .i64 h,.int .i64 s] 25)).alloc (.cells #[.int .i64 m,.bool bv,.bool j] 59)).alloc (.cells #[.int .i64 v,.int .i64 o] 62)).alloc (.cells #[.int .i64 0,.int .i64 0] 35)) [[.int .i64 p,.int .i64 c,.int .i64 h,.int .i64 s],[.int .i64 m,.bool bv,.bool j],[.int .i64 v,.int .i64 o],[.int .i64 0,.int .i64 0]]):=((((Fr.start w).allocT (by simp) _ _).allocT (by simp) _ _).allocT (by simp) _ _).allocT (by simp) _ _
 have CE:=h_ (choiceErrors_any p c h s m bv j A B n k ca cb own other v o a _ (hA.below HF0.out.b) (hB.below HF0.out.b) hca hcb);have HR:Hid (reR p c h s m bv own other v o a=((erR p c h s m bv own other v o a).2.1.1,(erR p c h s m bv own other v o a).2.1.2,(erR p c h s m bv own other v o a).2.2)):=rfl;generalize reR p c h s m bv own other v o a=rr at *;generalize erR p c h s m bv own other v o a=q at *;obtain⟨⟨l1,l2⟩,⟨g1,g2⟩,kk⟩:=q;clear hA hB
 go_enter Tryz.func59,Tryz.ntmps59
 go_wp2_with (fail)
 refine CE.out.mono ?_
 rintro e w1 ⟨rfl,hb1⟩
 have HF2:=h_ (HF0.out.below hb1);clear CE hb1 HF0
 have hz:w.heap.size+4≤w1.heap.size:=by have:=HF2.out.z;simpa using this
 obtain⟨z0,c00,f00,c01,f01,c02,f02,c03,f03,z1,c10,f10,c11,f11,c12,f12,z2,c20,f20,c21,f21,z3,c30,f30,c31,f31⟩:=HF2.out.xf9
 go_wp2_with (fail)
 have C3:Cel w1 (w.heap.size+1+1+1) [.int .i64 0,.int .i64 0]:=⟨HF2.out.l3 (by simp),fun i x hx=>HF2.out.c3 i (by simpa[frAt]using hx),fun i x hx=>HF2.out.f3 i (v:=x) (by simpa[frAt]using hx)⟩
 obtain⟨W,hW⟩:∃W,W=((((w1.setCell ⟨w.heap.size+1+1+1,0,none⟩ (.int .i64 g1)).setCell ⟨w.heap.size+1+1+1,1,none⟩ (.int .i64 g2)).alloc (.cells #[.int .i64 l1,.int .i64 l2] 35)).alloc (.cells #[.int .i64 g1,.int .i64 g2] 35)):=⟨_,rfl⟩
 have CW:Cel W (w.heap.size+1+1+1) [.int .i64 g1,.int .i64 g2]:=by rw[hW];exact (((C3.st (by simp)).st (by simp)).alloc _).alloc _
 have HBW:Hid (Below w.heap.size w W):=by
  rw[hW]
  repeat (first|with_reducible exact HF2.out.b|with_reducible refine drw ?_|with_reducible refine stw ?_ (by omega)|refine Below.alloc ?_ (by simp<;>omega) _)
 rw[← hW];clear hW C3;have q0:=CW.cell 0 _ rfl;have q1:=CW.cell 1 _ rfl
 exact bodyPost_ret (v:=.tuple #[.agg #[.int .i64 g1,.int .i64 g2],.int .i64 kk]) (by simp[results,Tryz.results59,go_sem,q0,q1]) rfl (RetN.mk' HR.out HBW.out)
end Go.Proofs.YtgjapehpkakkbaaGreat
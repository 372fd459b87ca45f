/- Contract of the reference's cube after an action. There are no conditions beyond those that it states. -/
import Derived.Test.YtgjapehpkakkbaaGreatLM47
set_option linter.unusedVariables false
set_option linter.unusedSimpArgs false
namespace Go.Proofs.YtgjapehpkakkbaaGreat
open Go.RowKit Mo Ps Ra Ex
theorem Fr.xg5 {w wr:World} {a0_0 a0_1 a0_2 a1_0 a1_1 a2_0 a2_1:Value} {t0 t1 t2:List Value} {tt:List (List Value)} (h:Fr w wr ((a0_0::a0_1::a0_2::t0)::(a1_0::a1_1::t1)::(a2_0::a2_1::t2)::tt)):w.heap.size<wr.heap.size∧wr.cell? ⟨w.heap.size,0,none⟩=some a0_0∧wr.frozen? ⟨w.heap.size,0,none⟩=false∧wr.cell? ⟨w.heap.size,1,none⟩=some a0_1∧wr.frozen? ⟨w.heap.size,1,none⟩=false∧wr.cell? ⟨w.heap.size,2,none⟩=some a0_2∧wr.frozen? ⟨w.heap.size,2,none⟩=false∧w.heap.size+1<wr.heap.size∧wr.cell? ⟨w.heap.size+1,0,none⟩=some a1_0∧wr.frozen? ⟨w.heap.size+1,0,none⟩=false∧wr.cell? ⟨w.heap.size+1,1,none⟩=some a1_1∧wr.frozen? ⟨w.heap.size+1,1,none⟩=false∧w.heap.size+1+1<wr.heap.size∧wr.cell? ⟨w.heap.size+1+1,0,none⟩=some a2_0∧wr.frozen? ⟨w.heap.size+1+1,0,none⟩=false∧wr.cell? ⟨w.heap.size+1+1,1,none⟩=some a2_1∧wr.frozen? ⟨w.heap.size+1+1,1,none⟩=false:=
 ⟨h.l0 (by simp),h.c0 0 rfl,h.f0 0 rfl,h.c0 1 rfl,h.f0 1 rfl,h.c0 2 rfl,h.f0 2 rfl,h.l1 (by simp),h.c1 0 rfl,h.f1 0 rfl,h.c1 1 rfl,h.f1 1 rfl,h.l2 (by simp),h.c2 0 rfl,h.f2 0 rfl,h.c2 1 rfl,h.f2 1 rfl⟩
theorem FrS.xg5 {S:Nat→Prop} {w wr:World} {a0_0 a0_1 a0_2 a1_0 a1_1 a2_0 a2_1:Value} {t0 t1 t2:List Value} {tt:List (List Value)} (h:FrS S w wr ((a0_0::a0_1::a0_2::t0)::(a1_0::a1_1::t1)::(a2_0::a2_1::t2)::tt)):w.heap.size<wr.heap.size∧wr.cell? ⟨w.heap.size,0,none⟩=some a0_0∧wr.frozen? ⟨w.heap.size,0,none⟩=false∧wr.cell? ⟨w.heap.size,1,none⟩=some a0_1∧wr.frozen? ⟨w.heap.size,1,none⟩=false∧wr.cell? ⟨w.heap.size,2,none⟩=some a0_2∧wr.frozen? ⟨w.heap.size,2,none⟩=false∧w.heap.size+1<wr.heap.size∧wr.cell? ⟨w.heap.size+1,0,none⟩=some a1_0∧wr.frozen? ⟨w.heap.size+1,0,none⟩=false∧wr.cell? ⟨w.heap.size+1,1,none⟩=some a1_1∧wr.frozen? ⟨w.heap.size+1,1,none⟩=false∧w.heap.size+1+1<wr.heap.size∧wr.cell? ⟨w.heap.size+1+1,0,none⟩=some a2_0∧wr.frozen? ⟨w.heap.size+1+1,0,none⟩=false∧wr.cell? ⟨w.heap.size+1+1,1,none⟩=some a2_1∧wr.frozen? ⟨w.heap.size+1+1,1,none⟩=false:=
 ⟨h.l0 (by simp),h.c0 0 rfl,h.f0 0 rfl,h.c0 1 rfl,h.f0 1 rfl,h.c0 2 rfl,h.f0 2 rfl,h.l1 (by simp),h.c1 0 rfl,h.f1 0 rfl,h.c1 1 rfl,h.f1 1 rfl,h.l2 (by simp),h.c2 0 rfl,h.f2 0 rfl,h.c2 1 rfl,h.f2 1 rfl⟩
set_option maxRecDepth 100000 in
set_option maxHeartbeats 2000000 in
theorem AfterAction_any (K:Nat) (bv j:Bool) (v o a:Int) (w:World) (hK:K≤10) (hcu:cubB (two K) v o=true) (hpa:posA ⟨two K,bv⟩ (v,o) a=true) (h2:a≠2):
  Calls Tryz.prog 170 #[.agg #[.int .i64 (two K),.bool bv,.bool j],.agg #[.int .i64 v,.int .i64 o],.int .i64 a] w fun e w'=>e = .returned (.tuple #[cbV (aft (v,o) a),.int .i64 0,.int .i64 0])∧Below w.heap.size w w':=by
 have hcv:1≤v∧v≤1024∧0≤o∧o≤2:=(cubB_ok hcu).v1 hK
 have HF:Hid (Fr w (((w.alloc (.cells #[.int .i64 (two K),.bool bv,.bool j] 59)).alloc (.cells #[.int .i64 v,.int .i64 o] 62)).alloc (.cells #[.int .i64 0,.int .i64 0] 62)) [[.int .i64 (two K),.bool bv,.bool j],[.int .i64 v,.int .i64 o],[.int .i64 0,.int .i64 0]]):=(((Fr.start w).allocT (by simp) _ _).allocT (by simp) _ _).allocT (by simp) _ _
 have CC:=Lib.hid fun (W:World)=>sIsCube_any (two K) bv j v o W
 rw[hcu]at CC
 have CP:=Lib.hid fun (W:World)=>l16Possible_any (two K) bv j v o a W (by omega) (by omega)
 rw[hpa]at CP
 have hcase:a=0∨a=1∨a=3∨a=4∨¬(0≤a∧a≤4):=by omega
 rcases hcase with rfl|rfl|rfl|rfl|hn
 ·clear hcu hpa h2
  go_enter Tryz.func170,Tryz.ntmps170
  go_wp2_with (fail)
  refine (CC.out _).mono ?_
  rintro e w1 ⟨rfl,hb⟩
  replace HF:=Lib.hid (HF.out.below hb);clear hb CC;obtain⟨z0,c00,f00,c01,f01,c02,f02,z1,c10,f10,c11,f11,z2,c20,f20,c21,f21⟩:=HF.out.xg5
  go_wp2_with (fail)
  clear z0 c00 f00 c01 f01 c02 f02 z1 c10 f10 c11 f11 z2 c20 f20 c21 f21
  refine (CP.out _).mono ?_
  rintro e w2 ⟨rfl,hb⟩
  replace HF:=Lib.hid (HF.out.below hb);clear hb CP;obtain⟨z0,c00,f00,c01,f01,c02,f02,z1,c10,f10,c11,f11,z2,c20,f20,c21,f21⟩:=HF.out.xg5
  go_wp2_with (fail)
  refine bodyPost_ret (v:=.tuple #[.agg #[.int .i64 (v),.int .i64 (o)],.int .i64 0,.int .i64 0]) (by simp[results,Tryz.results170,go_sem,c20,c21,z2,f20,f21]) rfl ⟨rfl,?_⟩
  repeat (first|with_reducible exact HF.out.b|with_reducible refine stw ?_ (by omega)|with_reducible refine alw ?_ (by omega))
 ·clear hcu hpa h2
  go_enter Tryz.func170,Tryz.ntmps170
  go_wp2_with (fail)
  refine (CC.out _).mono ?_
  rintro e w1 ⟨rfl,hb⟩
  replace HF:=Lib.hid (HF.out.below hb);clear hb CC;obtain⟨z0,c00,f00,c01,f01,c02,f02,z1,c10,f10,c11,f11,z2,c20,f20,c21,f21⟩:=HF.out.xg5
  go_wp2_with (fail)
  clear z0 c00 f00 c01 f01 c02 f02 z1 c10 f10 c11 f11 z2 c20 f20 c21 f21
  refine (CP.out _).mono ?_
  rintro e w2 ⟨rfl,hb⟩
  replace HF:=Lib.hid (HF.out.below hb);clear hb CP;obtain⟨z0,c00,f00,c01,f01,c02,f02,z1,c10,f10,c11,f11,z2,c20,f20,c21,f21⟩:=HF.out.xg5
  go_wp2_with (fail)
  refine bodyPost_ret (v:=.tuple #[.agg #[.int .i64 (2*v),.int .i64 (2)],.int .i64 0,.int .i64 0]) (by simp[results,Tryz.results170,go_sem,c20,c21,z2,f20,f21]) rfl ⟨rfl,?_⟩
  repeat (first|with_reducible exact HF.out.b|with_reducible refine stw ?_ (by omega)|with_reducible refine alw ?_ (by omega))
 ·clear hcu hpa h2
  go_enter Tryz.func170,Tryz.ntmps170
  go_wp2_with (fail)
  refine (CC.out _).mono ?_
  rintro e w1 ⟨rfl,hb⟩
  replace HF:=Lib.hid (HF.out.below hb);clear hb CC;obtain⟨z0,c00,f00,c01,f01,c02,f02,z1,c10,f10,c11,f11,z2,c20,f20,c21,f21⟩:=HF.out.xg5
  go_wp2_with (fail)
  clear z0 c00 f00 c01 f01 c02 f02 z1 c10 f10 c11 f11 z2 c20 f20 c21 f21
  refine (CP.out _).mono ?_
  rintro e w2 ⟨rfl,hb⟩
  replace HF:=Lib.hid (HF.out.below hb);clear hb CP;obtain⟨z0,c00,f00,c01,f01,c02,f02,z1,c10,f10,c11,f11,z2,c20,f20,c21,f21⟩:=HF.out.xg5
  go_wp2_with (fail)
  refine bodyPost_ret (v:=.tuple #[.agg #[.int .i64 (4*v),.int .i64 (2)],.int .i64 0,.int .i64 0]) (by simp[results,Tryz.results170,go_sem,c20,c21,z2,f20,f21]) rfl ⟨rfl,?_⟩
  repeat (first|with_reducible exact HF.out.b|with_reducible refine stw ?_ (by omega)|with_reducible refine alw ?_ (by omega))
 ·clear hcu hpa h2
  go_enter Tryz.func170,Tryz.ntmps170
  go_wp2_with (fail)
  refine (CC.out _).mono ?_
  rintro e w1 ⟨rfl,hb⟩
  replace HF:=Lib.hid (HF.out.below hb);clear hb CC;obtain⟨z0,c00,f00,c01,f01,c02,f02,z1,c10,f10,c11,f11,z2,c20,f20,c21,f21⟩:=HF.out.xg5
  go_wp2_with (fail)
  clear z0 c00 f00 c01 f01 c02 f02 z1 c10 f10 c11 f11 z2 c20 f20 c21 f21
  refine (CP.out _).mono ?_
  rintro e w2 ⟨rfl,hb⟩
  replace HF:=Lib.hid (HF.out.below hb);clear hb CP;obtain⟨z0,c00,f00,c01,f01,c02,f02,z1,c10,f10,c11,f11,z2,c20,f20,c21,f21⟩:=HF.out.xg5
  go_wp2_with (fail)
  refine bodyPost_ret (v:=.tuple #[.agg #[.int .i64 (8*v),.int .i64 (2)],.int .i64 0,.int .i64 0]) (by simp[results,Tryz.results170,go_sem,c20,c21,z2,f20,f21]) rfl ⟨rfl,?_⟩
  repeat (first|with_reducible exact HF.out.b|with_reducible refine stw ?_ (by omega)|with_reducible refine alw ?_ (by omega))
 ·rw[posA_no hn]at hpa;cases hpa
end Go.Proofs.YtgjapehpkakkbaaGreat
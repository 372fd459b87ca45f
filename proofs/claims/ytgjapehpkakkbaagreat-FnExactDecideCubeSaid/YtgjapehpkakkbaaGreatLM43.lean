/- Contracts of the law's comparison of decisions, and of IsRedouble on both sides. There are no conditions. -/
import Derived.Test.YtgjapehpkakkbaaGreatLM42
import Derived.Test.YtgjapehpkakkbaaGreatLM25
import Derived.Test.YtgjapehpkakkbaaGreatLZl
set_option linter.unusedVariables false
set_option linter.unusedSimpArgs false
namespace Go.Proofs.YtgjapehpkakkbaaGreat
open Go.RowKit Mo Ps Ra Ex
theorem Fr.xg4 {w wr:World} {a0_0 a0_1 a0_2 a0_3 a1_0 a1_1 a1_2 a2_0 a2_1:Value} {t0 t1 t2:List Value} {tt:List (List Value)} (h:Fr w wr ((a0_0::a0_1::a0_2::a0_3::t0)::(a1_0::a1_1::a1_2::t1)::(a2_0::a2_1::t2)::tt)):w.heap.size<wr.heap.size∧wr.cell? ⟨w.heap.size,0,none⟩=some a0_0∧wr.frozen? ⟨w.heap.size,0,none⟩=false∧wr.cell? ⟨w.heap.size,1,none⟩=some a0_1∧wr.frozen? ⟨w.heap.size,1,none⟩=false∧wr.cell? ⟨w.heap.size,2,none⟩=some a0_2∧wr.frozen? ⟨w.heap.size,2,none⟩=false∧wr.cell? ⟨w.heap.size,3,none⟩=some a0_3∧wr.frozen? ⟨w.heap.size,3,none⟩=false∧w.heap.size+1<wr.heap.size∧wr.cell? ⟨w.heap.size+1,0,none⟩=some a1_0∧wr.frozen? ⟨w.heap.size+1,0,none⟩=false∧wr.cell? ⟨w.heap.size+1,1,none⟩=some a1_1∧wr.frozen? ⟨w.heap.size+1,1,none⟩=false∧wr.cell? ⟨w.heap.size+1,2,none⟩=some a1_2∧wr.frozen? ⟨w.heap.size+1,2,none⟩=false∧w.heap.size+1+1<wr.heap.size∧wr.cell? ⟨w.heap.size+1+1,0,none⟩=some a2_0∧wr.frozen? ⟨w.heap.size+1+1,0,none⟩=false∧wr.cell? ⟨w.heap.size+1+1,1,none⟩=some a2_1∧wr.frozen? ⟨w.heap.size+1+1,1,none⟩=false:=
 ⟨h.l0 (by simp),h.c0 0 rfl,h.f0 0 rfl,h.c0 1 rfl,h.f0 1 rfl,h.c0 2 rfl,h.f0 2 rfl,h.c0 3 rfl,h.f0 3 rfl,h.l1 (by simp),h.c1 0 rfl,h.f1 0 rfl,h.c1 1 rfl,h.f1 1 rfl,h.c1 2 rfl,h.f1 2 rfl,h.l2 (by simp),h.c2 0 rfl,h.f2 0 rfl,h.c2 1 rfl,h.f2 1 rfl⟩
theorem FrS.xg4 {S:Nat→Prop} {w wr:World} {a0_0 a0_1 a0_2 a0_3 a1_0 a1_1 a1_2 a2_0 a2_1:Value} {t0 t1 t2:List Value} {tt:List (List Value)} (h:FrS S w wr ((a0_0::a0_1::a0_2::a0_3::t0)::(a1_0::a1_1::a1_2::t1)::(a2_0::a2_1::t2)::tt)):w.heap.size<wr.heap.size∧wr.cell? ⟨w.heap.size,0,none⟩=some a0_0∧wr.frozen? ⟨w.heap.size,0,none⟩=false∧wr.cell? ⟨w.heap.size,1,none⟩=some a0_1∧wr.frozen? ⟨w.heap.size,1,none⟩=false∧wr.cell? ⟨w.heap.size,2,none⟩=some a0_2∧wr.frozen? ⟨w.heap.size,2,none⟩=false∧wr.cell? ⟨w.heap.size,3,none⟩=some a0_3∧wr.frozen? ⟨w.heap.size,3,none⟩=false∧w.heap.size+1<wr.heap.size∧wr.cell? ⟨w.heap.size+1,0,none⟩=some a1_0∧wr.frozen? ⟨w.heap.size+1,0,none⟩=false∧wr.cell? ⟨w.heap.size+1,1,none⟩=some a1_1∧wr.frozen? ⟨w.heap.size+1,1,none⟩=false∧wr.cell? ⟨w.heap.size+1,2,none⟩=some a1_2∧wr.frozen? ⟨w.heap.size+1,2,none⟩=false∧w.heap.size+1+1<wr.heap.size∧wr.cell? ⟨w.heap.size+1+1,0,none⟩=some a2_0∧wr.frozen? ⟨w.heap.size+1+1,0,none⟩=false∧wr.cell? ⟨w.heap.size+1+1,1,none⟩=some a2_1∧wr.frozen? ⟨w.heap.size+1+1,1,none⟩=false:=
 ⟨h.l0 (by simp),h.c0 0 rfl,h.f0 0 rfl,h.c0 1 rfl,h.f0 1 rfl,h.c0 2 rfl,h.f0 2 rfl,h.c0 3 rfl,h.f0 3 rfl,h.l1 (by simp),h.c1 0 rfl,h.f1 0 rfl,h.c1 1 rfl,h.f1 1 rfl,h.c1 2 rfl,h.f1 2 rfl,h.l2 (by simp),h.c2 0 rfl,h.f2 0 rfl,h.c2 1 rfl,h.f2 1 rfl⟩
def Alc (lo:Nat) (cs:List Value):RP:=fun v W=>∃g,v = .pointer (some ⟨g,0,none⟩)∧lo≤g∧Cel W g cs
theorem stb_alc (lo:Nat) (cs:List Value):Stb (Alc lo cs):=fun _ _ _ ⟨g,h1,h2,h3⟩ hb=>⟨g,h1,h2,h3.below hb⟩
theorem alc_new {lo:Nat} (W:World) (cs:Array Value) (T:TypeId) (h:lo≤W.heap.size):Alc lo cs.toList (.pointer (some ⟨W.heap.size,0,none⟩)) (W.alloc (.cells cs T)):=⟨_,rfl,h,Cel.new W cs T⟩
set_option maxHeartbeats 1000000 in
theorem eqDecision_own (a b c d x f g h:Int) (w:World):
  Calls Tryz.prog 55 #[.agg #[.int .i64 a,.int .i64 b,.int .i64 c,.int .i64 d,.int .i64 x,.int .i64 f,.int .i64 g,.int .i64 h],.agg #[.int .i64 a,.int .i64 b,.int .i64 c,.int .i64 d,.int .i64 x,.int .i64 f,.int .i64 g,.int .i64 h]] w fun e w'=>e = .returned (.bool true)∧Below w.heap.size w w':=by
 have h1:(a != a)=false:=by simp
 have h2:(f != f)=false:=by simp
 have HB:Hid (Below w.heap.size w ((w.alloc (.cells #[.int .i64 a,.int .i64 b,.int .i64 c,.int .i64 d,.int .i64 x,.int .i64 f,.int .i64 g,.int .i64 h] 79)).alloc (.cells #[.int .i64 a,.int .i64 b,.int .i64 c,.int .i64 d,.int .i64 x,.int .i64 f,.int .i64 g,.int .i64 h] 79))):=((Below.refl _ _).alloc (Nat.le_refl _) _).alloc (by simp) _
 go_enter Tryz.func55,Tryz.ntmps55
 go_wp2_with (go_at_call 36;first|((with_reducible refine (more_call (eqExact_own _ _ _)).mono ?_);rintro e w' ⟨rfl,t2,rfl⟩)|((with_reducible refine (more_first (eqExact_own _ _ _)).mono ?_);rintro e w' ⟨rfl,t,rfl⟩))
 go_ret
 exact⟨rfl,by repeat (first|with_reducible exact HB.out|with_reducible refine blw ?_ (Nat.le_refl _))⟩
noncomputable def irB (p c h s m:Int) (bv:Bool) (own other:List Int) (v o:Int):Bool:=decide ((dcR p c h s m bv own other v o).2.2.2.2.2.2.2.2=0)&&(decide (o=1) && !decide ((dcR p c h s m bv own other v o).1=0))
noncomputable def irR (p c h s m:Int) (bv:Bool) (own other:List Int) (v o:Int):Bool×Int:=(irB p c h s m bv own other v o,(dcR p c h s m bv own other v o).2.2.2.2.2.2.2.2)
def RetBN (w:World) (r:Bool×Int) (e:Ending) (w':World):Prop:=e = .returned (.tuple #[.bool r.1,.int .i64 r.2])∧Below w.heap.size w w'
theorem RetBN.mk' {w w':World} {r:Bool×Int} {a:Bool} {b:Int} (hr:r=(a,b)) (hb:Below w.heap.size w w'):RetBN w r (.returned (.tuple #[.bool a,.int .i64 b])) w':=by subst hr;exact⟨rfl,hb⟩
set_option maxRecDepth 100000 in
set_option maxHeartbeats 4000000 in
theorem IsRedouble_any (p c h s m:Int) (bv j:Bool) (A B:Option Addr) (n k ca cb:Nat) (own other:List Int) (v o:Int) (w:World) (hA:SL w A n own) (hB:SL w B k other) (hca:n≤ca) (hcb:k≤cb):
  Calls Tryz.prog 52 #[.agg #[.int .i64 p,.int .i64 c,.int .i64 h,.int .i64 s],.agg #[.int .i64 m,.bool bv,.bool j],.slice A n ca,.slice B k cb,.agg #[.int .i64 v,.int .i64 o]] w (RetBN w (irR p c h s m bv own other v o)):=by
 have HF0:Hid (Fr w (((w.alloc (.cells #[.int .i64 p,.int .i64 c,.int .i64 h,.int .i64 s] 25)).alloc (.cells #[.int .i64 m,.bool bv,.bool j] 59)).alloc (.cells #[.int .i64 v,.int .i64 o] 62)) [[.int .i64 p,.int .i64 c,.int .i64 h,.int .i64 s],[.int .i64 m,.bool bv,.bool j],[.int .i64 v,.int .i64 o]]):=(((Fr.start w).allocT (by simp) _ _).allocT (by simp) _ _).allocT (by simp) _ _
 have HA0:=Lib.hid (hA.below HF0.out.b);have HB0:=Lib.hid (hB.below HF0.out.b);have CD:=Lib.hid (DecideCube_any p c h s m bv j A B n k ca cb own other v o _ HA0.out HB0.out hca hcb);obtain⟨r,hr⟩:∃r,r=dcR p c h s m bv own other v o:=⟨_,rfl⟩
 have HR:Hid (irR p c h s m bv own other v o=(decide (r.2.2.2.2.2.2.2.2=0)&&(decide (o=1) && !decide (r.1=0)),r.2.2.2.2.2.2.2.2)):=by unfold Hid irR irB;rw[← hr]
 rw[← hr]at CD;generalize irR p c h s m bv own other v o=rr at *;obtain⟨x1,x2,x3,x4,x5,x6,x7,x8,kk⟩:=r;clear hA hB hr HA0 HB0
 have done:∀(b1 b2 b3:Bool),(kk == 0)=b1→(o == 1)=b2→(x1 != 0)=b3→Hid (rr=(b1&&(b2&&b3),kk)):=fun b1 b2 b3 h1 h2 h3=>by
  unfold Hid
  have e1:decide (kk=0)=(kk == 0):=by by_cases h:kk=0<;>simp[h]
  have e2:decide (o=1)=(o == 1):=by by_cases h:o=1<;>simp[h]
  have e3:(!decide (x1=0))=(x1 != 0):=by by_cases h:x1=0<;>simp[h]
  rw[HR.out]
  simp only
  rw[e1,e2,e3,h1,h2,h3]
 rcases h1:(kk == 0) with _|_
 all_goals
  rcases h2:(o == 1) with _|_
  all_goals
   rcases h3:(x1 != 0) with _|_
   all_goals
    have HWR:=done _ _ _ h1 h2 h3
    simp only[Bool.true_and,Bool.false_and,Bool.and_false,Bool.and_true]at HWR
    go_enter Tryz.func52,Tryz.ntmps52
    go_wp2_with (fail)
    refine CD.out.mono ?_
    rintro e w1 ⟨rfl,hb1⟩
    have HFX:=Lib.hid (HF0.out.below hb1);clear hb1 CD HF0 HR done;obtain⟨z0,c00,f00,c01,f01,c02,f02,c03,f03,z1,c10,f10,c11,f11,c12,f12,z2,c20,f20,c21,f21⟩:=HFX.out.xg4
    go_wp2_with (fail)
    refine bodyPost_ret (v:=.tuple #[.bool _,.int .i64 kk]) (by simp[results,Tryz.results52,go_sem]) rfl (RetBN.mk' HWR.out ?_)
    repeat (first|with_reducible exact HFX.out.b|with_reducible refine stw ?_ (by omega)|with_reducible refine alw ?_ (by omega))
set_option maxRecDepth 100000 in
set_option maxHeartbeats 4000000 in
theorem sIsRedouble_any (p c h s m:Int) (bv j:Bool) (A B:Option Addr) (n k ca cb:Nat) (own other:List Int) (v o:Int) (w:World) (hA:SL w A n own) (hB:SL w B k other) (hca:n≤ca) (hcb:k≤cb):
  Calls Tryz.prog 51 #[.agg #[.int .i64 p,.int .i64 c,.int .i64 h,.int .i64 s],.agg #[.int .i64 m,.bool bv,.bool j],.slice A n ca,.slice B k cb,.agg #[.int .i64 v,.int .i64 o]] w (RetBN w (irR p c h s m bv own other v o)):=by
 have HF0:Hid (Fr w (((w.alloc (.cells #[.int .i64 p,.int .i64 c,.int .i64 h,.int .i64 s] 25)).alloc (.cells #[.int .i64 m,.bool bv,.bool j] 59)).alloc (.cells #[.int .i64 v,.int .i64 o] 62)) [[.int .i64 p,.int .i64 c,.int .i64 h,.int .i64 s],[.int .i64 m,.bool bv,.bool j],[.int .i64 v,.int .i64 o]]):=(((Fr.start w).allocT (by simp) _ _).allocT (by simp) _ _).allocT (by simp) _ _
 have HA0:=Lib.hid (hA.below HF0.out.b);have HB0:=Lib.hid (hB.below HF0.out.b);have CD:=Lib.hid (sDecideCube_any p c h s m bv j A B n k ca cb own other v o _ HA0.out HB0.out hca hcb);obtain⟨r,hr⟩:∃r,r=dcR p c h s m bv own other v o:=⟨_,rfl⟩
 have HR:Hid (irR p c h s m bv own other v o=(decide (r.2.2.2.2.2.2.2.2=0)&&(decide (o=1) && !decide (r.1=0)),r.2.2.2.2.2.2.2.2)):=by unfold Hid irR irB;rw[← hr]
 rw[← hr]at CD;generalize irR p c h s m bv own other v o=rr at *;obtain⟨x1,x2,x3,x4,x5,x6,x7,x8,kk⟩:=r;clear hA hB hr HA0 HB0
 have done:∀(b1 b2 b3:Bool),(kk == 0)=b1→(o == 1)=b2→(x1 != 0)=b3→Hid (rr=(b1&&(b2&&b3),kk)):=fun b1 b2 b3 h1 h2 h3=>by
  unfold Hid
  have e1:decide (kk=0)=(kk == 0):=by by_cases h:kk=0<;>simp[h]
  have e2:decide (o=1)=(o == 1):=by by_cases h:o=1<;>simp[h]
  have e3:(!decide (x1=0))=(x1 != 0):=by by_cases h:x1=0<;>simp[h]
  rw[HR.out]
  simp only
  rw[e1,e2,e3,h1,h2,h3]
 rcases h1:(kk == 0) with _|_
 all_goals
  rcases h2:(o == 1) with _|_
  all_goals
   rcases h3:(x1 != 0) with _|_
   all_goals
    have HWR:=done _ _ _ h1 h2 h3
    simp only[Bool.true_and,Bool.false_and,Bool.and_false,Bool.and_true]at HWR
    go_enter Tryz.func51,Tryz.ntmps51
    go_wp2_with (fail)
    refine CD.out.mono ?_
    rintro e w1 ⟨rfl,hb1⟩
    have HFX:=Lib.hid (HF0.out.below hb1);clear hb1 CD HF0 HR done;obtain⟨z0,c00,f00,c01,f01,c02,f02,c03,f03,z1,c10,f10,c11,f11,c12,f12,z2,c20,f20,c21,f21⟩:=HFX.out.xg4
    go_wp2_with (fail)
    refine bodyPost_ret (v:=.tuple #[.bool _,.int .i64 kk]) (by simp[results,Tryz.results51,go_sem]) rfl (RetBN.mk' HWR.out ?_)
    repeat (first|with_reducible exact HFX.out.b|with_reducible refine stw ?_ (by omega)|with_reducible refine alw ?_ (by omega))
end Go.Proofs.YtgjapehpkakkbaaGreat
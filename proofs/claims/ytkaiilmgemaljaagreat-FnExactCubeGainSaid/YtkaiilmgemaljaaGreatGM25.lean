/- Part of one proof. There are no conditions. -/
import Derived.Test.YtkaiilmgemaljaaGreatGD2
import Derived.ChangeArms
set_option linter.unusedVariables false
set_option linter.unusedSimpArgs false
set_option maxRecDepth 100000
namespace Go.Proofs.YtkaiilmgemaljaaGreat
open Go.ChangeShapes Go.WideShapes Go.ChangeAt Go.RowKit Go.Joins Go.Deep
theorem cellsLK:Tryz.prog.cellsOf 76=3:=by kernel_rfl
theorem cellsLC:Tryz.prog.cellsOf 77=2:=by kernel_rfl
theorem cellsLB:Tryz.prog.cellsOf 4=1:=by kernel_rfl
section
variable {H:Type} {enc:TypeId×Value->H} {w:World} {base:Nat} {spare:Nat->Bool} {held:Bool} {fuel:Nat}
theorem openCube {cs:List Value} {x:DataW H×List MemPlace} (h:DataW.trod enc Tryz.prog w base spare held fuel 77 cs=some x):
  ∃p c:Int,cs=[.int .i64 p,.int .i64 c]/\(Lit.int .i64 p).wf=true/\(Lit.int .i64 c).wf=true:=by
 obtain⟨hl,n,hf⟩:=fld Tryz.underlying77 h;obtain⟨y0,h0⟩:=hf 0 _ rfl;obtain⟨y1,h1⟩:=hf 1 _ rfl;rw[cellsLC]at hl
 match cs,hl with
 | [v0, v1], _ =>
   obtain ⟨p, e0, w0⟩ := fG (fldT h0 (t' := 2) (cs' := [v0]) rfl (by show List.take (Tryz.prog.cellsOf 2) _ = _; rw [gZ]; rfl))
   obtain ⟨c, e1, w1⟩ := fG (fldT h1 (t' := 2) (cs' := [v1]) rfl (by show List.take (Tryz.prog.cellsOf 2) _ = _; rw [gZ]; rfl))
   simp at e0 e1
   subst e0 e1
   exact ⟨p, c, rfl, w0, w1⟩
theorem openBool {cs:List Value} {x:DataW H×List MemPlace} (h:DataW.trod enc Tryz.prog w base spare held fuel 4 cs=some x):∃b:Bool,cs=[.bool b]:=by
 obtain⟨b,h1,_⟩:=DataW.trod_bool Tryz.underlying4 h
 exact⟨b,h1⟩
theorem openRules {cs:List Value} {x:DataW H×List MemPlace} (h:DataW.trod enc Tryz.prog w base spare held fuel 76 cs=some x):
  ∃(m:Int) (b j:Bool),cs=[.int .i64 m,.bool b,.bool j]/\(Lit.int .i64 m).wf=true:=by
 obtain⟨hl,n,hf⟩:=fld Tryz.underlying76 h;obtain⟨y0,h0⟩:=hf 0 _ rfl;obtain⟨y1,h1⟩:=hf 1 _ rfl;obtain⟨y2,h2⟩:=hf 2 _ rfl;rw[cellsLK]at hl
 match cs,hl with
 | [v0, v1, v2], _ =>
   obtain ⟨m, e0, w0⟩ := fG (fldT h0 (t' := 2) (cs' := [v0]) rfl (by show List.take (Tryz.prog.cellsOf 2) _ = _; rw [gZ]; rfl))
   obtain ⟨b, e1⟩ := openBool (fldT h1 (t' := 4) (cs' := [v1]) rfl (by show List.take (Tryz.prog.cellsOf 4) _ = _; rw [cellsLB]; rfl))
   obtain ⟨j, e2⟩ := openBool (fldT h2 (t' := 4) (cs' := [v2]) rfl (by show List.take (Tryz.prog.cellsOf 4) _ = _; rw [cellsLB]; rfl))
   simp at e0 e1 e2
   subst e0 e1 e2
   exact ⟨m, b, j, rfl, w0⟩
end
theorem jl (a b:Int) (w:World):
  Calls Tryz.prog 58 #[.agg #[.int .i64 a,.int .i64 b]] w fun e w'=>e = .returned (.agg #[.int .i64 a,.int .i64 b])/\Below w.heap.size w w':=by
 go_enter Tryz.func58,Tryz.ntmps58
 go_wp2
 exact bodyPost_ret (v:=.agg #[.int .i64 a,.int .i64 b]) (by simp[results,Tryz.results58,go_sem]) rfl ⟨rfl,(((Below.refl _ _).alloc (Nat.le_refl _) _).alloc (by simp) _).alloc (by simp;omega) _⟩
theorem ep (a:Int) (b j:Bool) (w:World):
  Calls Tryz.prog 56 #[.agg #[.int .i64 a,.bool b,.bool j]] w fun e w'=>e = .returned (.agg #[.int .i64 a,.bool b,.bool j])/\Below w.heap.size w w':=by
 go_enter Tryz.func56,Tryz.ntmps56
 go_wp2
 exact bodyPost_ret (v:=.agg #[.int .i64 a,.bool b,.bool j]) (by simp[results,Tryz.results56,go_sem]) rfl ⟨rfl,(((Below.refl _ _).alloc (Nat.le_refl _) _).alloc (by simp) _).alloc (by simp;omega) _⟩
theorem eqExact_own (m d:Int) (w:World):
  Calls Tryz.prog 60 #[.agg #[.int .i64 m,.int .i64 d],.agg #[.int .i64 m,.int .i64 d]] w fun e w'=>e = .returned (.bool true)/\Below w.heap.size w w':=by
 have h1:(m != m)=false:=by simp
 have h2:(d != d)=false:=by simp
 go_enter Tryz.func60,Tryz.ntmps60
 go_wp2
 go_ret
 exact⟨rfl,((Below.refl _ _).alloc (Nat.le_refl _) _).alloc (by simp) _⟩
end Go.Proofs.YtkaiilmgemaljaaGreat

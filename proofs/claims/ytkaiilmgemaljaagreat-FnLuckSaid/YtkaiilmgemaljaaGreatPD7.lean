/- Contract of what the draws of races hand on. There are no conditions beyond those that it states. -/
import Derived.Test.YtkaiilmgemaljaaGreatPD6
namespace Go.Proofs.YtkaiilmgemaljaaGreat
set_option linter.unusedVariables false
set_option linter.unusedSimpArgs false
open Go.RowKit

def drawn12 (bs : List Int) : (Int × Int × Int × Int) × (List Int × List Int × (Int × Nat)) := d12F bs (seedK bs 64, 0)
def RetRace (r : (Int × Int × Int × Int) × (List Int × List Int × (Int × Nat))) (W : World) (e : Ending) (W' : World) : Prop :=
 ∃ v1 v2, e = .returned (.tuple #[.agg #[.int .i64 r.1.1, .int .i64 r.1.2.1, .int .i64 r.1.2.2.1, .int .i64 r.1.2.2.2], v1, v2]) ∧
   OwnS W' W.heap.size 2 v1 r.2.1 ∧ OwnS W' W.heap.size 2 v2 r.2.2.1 ∧ Below W.heap.size W W'
theorem SBy.below {w w' : World} {C : Option Addr} {n : Nat} {bs : List Int} (h : SBy w C n bs) (hb : Below w.heap.size w w') : SBy w' C n bs :=
 h.frm (S := fun _ => False) (Frm.of_below' _ hb) fun _ _ _ _ _ h => h.elim
theorem Frm.belowOwn {B : Nat} {W W1 W2 : World} {g : Nat} (hb : Below B W W1) (hf : Frm (fun j => j = g) W1 W2) (hg : B ≤ g) (hB : B ≤ W.heap.size) : Below B W W2 :=
 ⟨hf.os.trans hb.os, hf.tape.trans hb.tape, hf.output.trans hb.output, Nat.le_trans hb.size hf.size, fun k hk => (hf.block k (by have := hb.size; omega) (fun (e : k = g) => by omega)).trans (hb.block k hk)⟩
set_option maxRecDepth 100000 in
set_option maxHeartbeats 1000000 in
theorem DrawRollChances_any (C : Option Addr) (n c : Nat) (bs : List Int) (W : World) (h : SBy W C n bs) (hn : n ≤ 4096) :
   Calls Tryz.prog 15 #[.slice C n c] W (RetRace (drawn12 bs) W) := by
 have HF0 : Hid (Fr W (W.alloc (.cells #[.int .i64 0, .int .i64 0, .int .i64 0, .int .i64 0] 25)) [[.int .i64 0, .int .i64 0, .int .i64 0, .int .i64 0]]) := (Fr.start W).allocT (by simp) _ _
 have HS0 := Lib.hid (h.below HF0.out.b); obtain ⟨R, hR⟩ : ∃ R, R = drawn12 bs := ⟨_, rfl⟩; obtain ⟨q0, hq0⟩ : ∃ q0 : Int × Nat, q0 = (seedK bs 64, 0) := ⟨_, rfl⟩
 have HDR : Hid (d12F bs q0 = R) := by unfold Hid; rw [hR, hq0]; unfold drawn12; with_reducible rfl
 have HQ := Lib.hid hq0; rw [← hR]; clear hR hq0; clear h
 go_enter Tryz.func15, Tryz.ntmps15
 go_wp2_with (fail)
 refine (l01From_any C n c bs _ HS0.out hn).mono ?_
 rintro e w1 ⟨rfl, hs1, hb1⟩
 have HF1 := Lib.hid (HF0.out.below hb1)
 have eg : (W.alloc (.cells #[.int .i64 0, .int .i64 0, .int .i64 0, .int .i64 0] 25)).heap.size = W.heap.size + 1 := by simp
 rw [← HQ.out, eg] at hs1; clear eg; have HS1 := Lib.hid hs1; clear hs1 hb1 HF0 HS0 HQ
 go_wp2_with (fail)
 refine (l12Draw_any _ C n c bs _ w1 HS1.out).mono ?_
 rw [HDR.out]; obtain ⟨⟨p, c', h', s⟩, own, other, q⟩ := R
 rintro e w2 ⟨v1, v2, rfl, h1, h2, hs2, hf2⟩
 have HF2 : Hid (Below W.heap.size W w2) := Frm.belowOwn HF1.out.b hf2 (by simp) (Nat.le_refl _)
 have HX : Hid (FrS (fun _ => False) W w2 [[.int .i64 0, .int .i64 0, .int .i64 0, .int .i64 0]]) := (FrS.of HF1.out (fun _ h => h.elim)).out hf2 (fun k hk => by rw [hk]; simp)
 have hzw : W.heap.size < w1.heap.size := HF1.out.l0 (by simp)
 have H1 := Lib.hid h1; have H2 := Lib.hid h2; clear HF1 HS1 hs2 hf2 h1 h2 HDR; have x0 := HX.out.c0 0 rfl; have x1 := HX.out.c0 1 rfl; have x2 := HX.out.c0 2 rfl; have x3 := HX.out.c0 3 rfl; have f0 := HX.out.f0 0 rfl; have f1 := HX.out.f0 1 rfl; have f2 := HX.out.f0 2 rfl; have f3 := HX.out.f0 3 rfl
 have xz := HX.out.l0 (by simp)
 go_wp2_with (fail)
 have hb : ∀ v0 v1 v2 v3, Below W.heap.size W ((((w2.setCell ⟨W.heap.size, 0, none⟩ v0).setCell ⟨W.heap.size, 1, none⟩ v1).setCell ⟨W.heap.size, 2, none⟩ v2).setCell ⟨W.heap.size, 3, none⟩ v3) := fun v0 v1 v2 v3 => (((HF2.out.setCell (by simp) _).setCell (by simp) _).setCell (by simp) _).setCell (by simp) _
 refine bodyPost_ret (v := .tuple #[.agg #[.int .i64 p, .int .i64 c', .int .i64 h', .int .i64 s], v1, v2]) (by simp [results, Tryz.results15, go_sem, x0, x1, x2, x3]) rfl ?_
 refine ⟨v1, v2, rfl, ?_, ?_, hb _ _ _ _⟩
 · have hq := ((((H1.out.far hzw (.int .i64 p) (i := 0)).far hzw (.int .i64 c') (i := 1)).far hzw (.int .i64 h') (i := 2)).far hzw (.int .i64 s) (i := 3)).base (b' := W.heap.size) (by omega)
   exact hq
 · have hq := ((((H2.out.far hzw (.int .i64 p) (i := 0)).far hzw (.int .i64 c') (i := 1)).far hzw (.int .i64 h') (i := 2)).far hzw (.int .i64 s) (i := 3)).base (b' := W.heap.size) (by omega)
   exact hq
end Go.Proofs.YtkaiilmgemaljaaGreat

/- What comes in, opened: slices of integers, slices of boards, desks. There are no conditions. -/
import Derived.Test.YtkjlafcnmniomaaDoorA6
import Derived.ProofKit
import Derived.OpenShut
import Derived.Lib.SmallJoins
import Derived.Deep.Slices
import Derived.Deep.Fields
import Derived.ChangeSame
import Derived.ChangeSlices
import Derived.Below
namespace Go.Proofs.YtkjlafcnmniomaaDoor
set_option linter.unusedVariables false
set_option linter.unusedSimpArgs false
open Go.ChangeShapes Go.WideShapes Go.ChangeAt Go.RowKit Go.Joins Go.Deep

theorem cellsV : Tryd.prog.cellsOf 23 = 4 := by kernel_rfl
theorem cellsB : Tryd.prog.cellsOf 26 = 2 := by kernel_rfl
theorem cellsR : Tryd.prog.cellsOf 28 = 2 := by kernel_rfl
theorem cellsD : Tryd.prog.cellsOf 31 = 10 := by kernel_rfl
theorem cellsS : Tryd.prog.cellsOf 24 = 1 := by kernel_rfl
theorem cellsBS : Tryd.prog.cellsOf 29 = 1 := by kernel_rfl
theorem cellsI : Tryd.prog.cellsOf 2 = 1 := by kernel_rfl

section
variable {H : Type} {enc : TypeId × Value → H} {w : World} {base : Nat} {spare : Nat → Bool} {held : Bool} {fuel : Nat}

theorem fld {t : TypeId} {fs : Array Field} {cs : List Value} {x : DataW H × List MemPlace} (ht : Tryd.prog.underlying t = some (.struct fs)) (h : DataW.trod enc Tryd.prog w base spare held fuel t cs = some x) :
    cs.length = Tryd.prog.cellsOf t ∧ ∃ n, ∀ (i : Nat) (f : Field), fs[i]? = some f → ∃ y, DataW.trod enc Tryd.prog w base spare held n f.type ((cs.drop f.offset).take (Tryd.prog.cellsOf f.type)) = some y := by
  obtain ⟨xs, n, _, _, hl, hx, hf⟩ := DataW.trod_struct ht h
  refine ⟨hl, n, fun i f hi => ?_⟩
  have hlt : i < xs.length := by rw [hx]; exact (Array.getElem?_eq_some_iff.1 hi).1
  exact ⟨_, (hf i f hi).trans (List.getElem?_eq_getElem hlt)⟩

theorem fldT {t : TypeId} {cs : List Value} {y0 : DataW H × List MemPlace} {P : Program} {n : Nat} {t' : TypeId} {cs' : List Value} (h : DataW.trod enc P w base spare held n t cs = some y0) (e1 : t = t') (e2 : cs = cs') : DataW.trod enc P w base spare held n t' cs' = some y0 := by subst e1 e2; exact h

theorem openInt {cs : List Value} {x : DataW H × List MemPlace} (h : DataW.trod enc Tryd.prog w base spare held fuel 2 cs = some x) : ∃ n : Int, cs = [.int .i64 n] ∧ (Lit.int .i64 n).wf = true := by
  obtain ⟨n, h1, _, h2⟩ := DataW.trod_int Tryd.underlying2 h
  exact ⟨n, h1, h2⟩

theorem openSL {cs : List Value} {x : DataW H × List MemPlace} (h : DataW.trod enc Tryd.prog w base spare held fuel 24 cs = some x) :
    ∃ A n c xs, cs = [.slice A n c] ∧ SL w A n xs ∧ n ≤ maxLen ∧ ∀ z ∈ xs, (Lit.int .i64 z).wf = true := by
  rcases open_ints Tryd.underlying24 Tryd.underlying2 cellsI h with ⟨rfl, _⟩ | ⟨a, len, cap, zs, rfl, _, hl, hm, hz, _, hcell, hw⟩
  · exact ⟨none, 0, 0, [], rfl, SL.nil_ _, by simp [maxLen], by simp⟩
  · have hle : len ≤ zs.length := by rw [hz]; split <;> omega
    refine ⟨some a, len, cap, zs.take len, rfl, ⟨by simp; omega, fun hn => ?_⟩, by omega, fun z hz' => hw z (List.mem_of_mem_take hz')⟩
    obtain ⟨b, off, spot⟩ := a
    have h0 := hcell 0 (by omega)
    have hspot : spot = none := by simpa [Addr.add] using World.cell?_spot h0
    subst hspot
    refine ⟨b, off, rfl, World.block_lt_of_cell? w _ h0, fun i hi => ?_⟩
    have h1 := hcell i (by omega)
    rw [add_plain] at h1
    rw [h1]
    simp [List.getD, List.getElem?_take, hi]

set_option maxRecDepth 100000 in
theorem openBoard {cs : List Value} {x : DataW H × List MemPlace} (h : DataW.trod enc Tryd.prog w base spare held fuel 26 cs = some x) :
    ∃ A1 n1 c1 xs A2 n2 c2 ys, cs = [.slice A1 n1 c1, .slice A2 n2 c2] ∧ SL w A1 n1 xs ∧ n1 ≤ maxLen ∧ SL w A2 n2 ys ∧ n2 ≤ maxLen := by
  obtain ⟨hl, n, hf⟩ := fld Tryd.underlying26 h
  obtain ⟨y0, h0⟩ := hf 0 _ rfl
  obtain ⟨y1, h1⟩ := hf 1 _ rfl
  rw [cellsB] at hl
  match cs, hl with
  | [v0, v1], _ =>
    obtain ⟨A1, n1, c1, xs, e1, s1, m1, _⟩ := openSL (fldT h0 (t' := 24) (cs' := [v0]) rfl (by show List.take (Tryd.prog.cellsOf 24) _ = _; rw [cellsS]; rfl))
    obtain ⟨A2, n2, c2, ys, e2, s2, m2, _⟩ := openSL (fldT h1 (t' := 24) (cs' := [v1]) rfl (by show List.take (Tryd.prog.cellsOf 24) _ = _; rw [cellsS]; rfl))
    simp at e1 e2
    subst e1 e2
    exact ⟨A1, n1, c1, xs, A2, n2, c2, ys, rfl, s1, m1, s2, m2⟩

set_option maxRecDepth 100000 in
theorem openVariant {cs : List Value} {x : DataW H × List MemPlace} (h : DataW.trod enc Tryd.prog w base spare held fuel 23 cs = some x) :
    ∃ p c g s : Int, cs = [.int .i64 p, .int .i64 c, .int .i64 g, .int .i64 s] ∧ (Lit.int .i64 p).wf = true ∧ (Lit.int .i64 c).wf = true ∧ (Lit.int .i64 g).wf = true ∧ (Lit.int .i64 s).wf = true := by
  obtain ⟨hl, n, hf⟩ := fld Tryd.underlying23 h
  obtain ⟨y0, h0⟩ := hf 0 _ rfl
  obtain ⟨y1, h1⟩ := hf 1 _ rfl
  obtain ⟨y2, h2⟩ := hf 2 _ rfl
  obtain ⟨y3, h3⟩ := hf 3 _ rfl
  rw [cellsV] at hl
  match cs, hl with
  | [v0, v1, v2, v3], _ =>
    obtain ⟨p, e0, w0⟩ := openInt (fldT h0 (t' := 2) (cs' := [v0]) rfl (by show List.take (Tryd.prog.cellsOf 2) _ = _; rw [cellsI]; rfl))
    obtain ⟨c, e1, w1⟩ := openInt (fldT h1 (t' := 2) (cs' := [v1]) rfl (by show List.take (Tryd.prog.cellsOf 2) _ = _; rw [cellsI]; rfl))
    obtain ⟨g, e2, w2⟩ := openInt (fldT h2 (t' := 2) (cs' := [v2]) rfl (by show List.take (Tryd.prog.cellsOf 2) _ = _; rw [cellsI]; rfl))
    obtain ⟨s, e3, w3⟩ := openInt (fldT h3 (t' := 2) (cs' := [v3]) rfl (by show List.take (Tryd.prog.cellsOf 2) _ = _; rw [cellsI]; rfl))
    simp at e0 e1 e2 e3
    subst e0 e1 e2 e3
    exact ⟨p, c, g, s, rfl, w0, w1, w2, w3⟩

set_option maxRecDepth 100000 in
theorem openRoll {cs : List Value} {x : DataW H × List MemPlace} (h : DataW.trod enc Tryd.prog w base spare held fuel 28 cs = some x) :
    ∃ p c : Int, cs = [.int .i64 p, .int .i64 c] ∧ (Lit.int .i64 p).wf = true ∧ (Lit.int .i64 c).wf = true := by
  obtain ⟨hl, n, hf⟩ := fld Tryd.underlying28 h
  obtain ⟨y0, h0⟩ := hf 0 _ rfl
  obtain ⟨y1, h1⟩ := hf 1 _ rfl
  rw [cellsR] at hl
  match cs, hl with
  | [v0, v1], _ =>
    obtain ⟨p, e0, w0⟩ := openInt (fldT h0 (t' := 2) (cs' := [v0]) rfl (by show List.take (Tryd.prog.cellsOf 2) _ = _; rw [cellsI]; rfl))
    obtain ⟨c, e1, w1⟩ := openInt (fldT h1 (t' := 2) (cs' := [v1]) rfl (by show List.take (Tryd.prog.cellsOf 2) _ = _; rw [cellsI]; rfl))
    simp at e0 e1
    subst e0 e1
    exact ⟨p, c, rfl, w0, w1⟩

set_option maxRecDepth 100000 in
theorem openSBs {cs : List Value} {x : DataW H × List MemPlace} (h : DataW.trod enc Tryd.prog w base spare held fuel 29 cs = some x) :
    ∃ A n c bs, cs = [.slice A n c] ∧ SBs w A n bs ∧ n ≤ maxLen := by
  rcases open_slice Tryd.underlying29 h with ⟨rfl, _⟩ | ⟨a, len, cap, m, n, D, Pl, rfl, hb, hl, hm, hmm, hx, hi⟩
  · exact ⟨none, 0, 0, [], rfl, SBs.nil_ _ _, by simp [maxLen]⟩
  · have hle : len ≤ m := by rw [hmm]; split <;> omega
    have hall : ∀ i, i < len → ∃ b : List Int × List Int, ∃ A1 n1 c1 A2 n2 c2, w.cell? (a.add (i * 2)) = some (.slice A1 n1 c1) ∧ w.cell? ((a.add (i * 2)).add 1) = some (.slice A2 n2 c2) ∧ SL w A1 n1 b.1 ∧ SL w A2 n2 b.2 ∧ n1 ≤ maxLen ∧ n2 ≤ maxLen := by
      intro i hil
      obtain ⟨cs', hc, ht'⟩ := hi i (by omega)
      rw [cellsB] at hc
      obtain ⟨A1, n1, c1, xs, A2, n2, c2, ys, rfl, s1, m1, s2, m2⟩ := openBoard ht'
      obtain ⟨_, _, hat⟩ := World.cells?_some hc
      have q0 := hat 0 (by omega)
      have q1 := hat 1 (by omega)
      exact ⟨(xs, ys), A1, n1, c1, A2, n2, c2, by simpa [Addr.add] using q0, by simpa using q1, s1, s2, m1, m2⟩
    obtain ⟨b, off, spot⟩ := a
    have hsp : 0 < len → spot = none := by
      intro hn
      obtain ⟨_, A1, n1, c1, A2, n2, c2, h0, _⟩ := hall 0 hn
      simpa [Addr.add] using World.cell?_spot h0
    have hbl : 0 < len → b < w.heap.size := by
      intro hn
      obtain ⟨_, A1, n1, c1, A2, n2, c2, h0, _⟩ := hall 0 hn
      have := World.block_lt_of_cell? w _ h0
      simpa [Addr.add] using this
    let F : Nat → List Int × List Int := fun i => if h : i < len then (hall i h).choose else ([], [])
    refine ⟨some ⟨b, off, spot⟩, len, cap, (List.range len).map F, rfl, ⟨by simp, fun hn => ?_⟩, by omega⟩
    obtain rfl := hsp hn
    refine ⟨b, off, rfl, hbl hn, fun i hi' => ?_⟩
    have hF : ((List.range len).map F).getD i ([], []) = (hall i hi').choose := by simp [List.getD, hi', F]
    rw [hF]
    obtain ⟨A1, n1, c1, A2, n2, c2, h0, h1, h2, h3, h4, h5⟩ := (hall i hi').choose_spec
    refine ⟨A1, n1, c1, A2, n2, c2, ?_, ?_, h2, h3, h4, h5⟩
    · rw [add_plain] at h0; exact h0
    · rw [add_plain, add_plain] at h1; exact h1

set_option maxRecDepth 100000 in
theorem openDesk {cs : List Value} {x : DataW H × List MemPlace} (h : DataW.trod enc Tryd.prog w base spare held fuel 31 cs = some x) :
    ∃ (p c g s ra rb seed : Int) (A1 A2 A3 : Option Addr) (n1 a1 n2 a2 n3 a3 : Nat) (xs ys : List Int) (past : List (List Int × List Int)),
      cs = [.int .i64 p, .int .i64 c, .int .i64 g, .int .i64 s, .slice A1 n1 a1, .slice A2 n2 a2, .int .i64 ra, .int .i64 rb, .int .i64 seed, .slice A3 n3 a3] ∧ SL w A1 n1 xs ∧ SL w A2 n2 ys ∧ SBs w A3 n3 past ∧ n1 ≤ maxLen ∧ n2 ≤ maxLen ∧ n3 ≤ maxLen := by
  obtain ⟨hl, n, hf⟩ := fld Tryd.underlying31 h
  obtain ⟨y0, h0⟩ := hf 0 _ rfl
  obtain ⟨y1, h1⟩ := hf 1 _ rfl
  obtain ⟨y2, h2⟩ := hf 2 _ rfl
  obtain ⟨y3, h3⟩ := hf 3 _ rfl
  obtain ⟨y4, h4⟩ := hf 4 _ rfl
  rw [cellsD] at hl
  match cs, hl with
  | [v0, v1, v2, v3, v4, v5, v6, v7, v8, v9], _ =>
    obtain ⟨p, c, g, s, e0, _⟩ := openVariant (fldT h0 (t' := 23) (cs' := [v0, v1, v2, v3]) rfl (by show List.take (Tryd.prog.cellsOf 23) _ = _; rw [cellsV]; rfl))
    obtain ⟨A1, n1, a1, xs, A2, n2, a2, ys, e1, s1, m1, s2, m2⟩ := openBoard (fldT h1 (t' := 26) (cs' := [v4, v5]) rfl (by show List.take (Tryd.prog.cellsOf 26) _ = _; rw [cellsB]; rfl))
    obtain ⟨ra, rb, e2, _⟩ := openRoll (fldT h2 (t' := 28) (cs' := [v6, v7]) rfl (by show List.take (Tryd.prog.cellsOf 28) _ = _; rw [cellsR]; rfl))
    obtain ⟨seed, e3, _⟩ := openInt (fldT h3 (t' := 2) (cs' := [v8]) rfl (by show List.take (Tryd.prog.cellsOf 2) _ = _; rw [cellsI]; rfl))
    obtain ⟨A3, n3, a3, past, e4, s3, m3⟩ := openSBs (fldT h4 (t' := 29) (cs' := [v9]) rfl (by show List.take (Tryd.prog.cellsOf 29) _ = _; rw [cellsBS]; rfl))
    simp at e0 e1 e2 e3 e4
    obtain ⟨rfl, rfl, rfl, rfl⟩ := e0
    obtain ⟨rfl, rfl⟩ := e1
    obtain ⟨rfl, rfl⟩ := e2
    subst e3 e4
    exact ⟨p, c, g, s, ra, rb, seed, A1, A2, A3, n1, a1, n2, a2, n3, a3, xs, ys, past, rfl, s1, s2, s3, m1, m2, m3⟩
end
end Go.Proofs.YtkjlafcnmniomaaDoor

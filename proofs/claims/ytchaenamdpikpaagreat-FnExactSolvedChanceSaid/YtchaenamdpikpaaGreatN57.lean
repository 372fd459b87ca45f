/- What the reference's table functions are behind l12New. There are no conditions. -/
import Derived.Test.YtchaenamdpikpaaGreatZv
namespace Go.Proofs.YtchaenamdpikpaaGreat
set_option linter.unusedVariables false
set_option linter.unusedSimpArgs false
open Go.RowKit Ps Ra Ex

theorem value_at {t : RT2} {W : World} {c h s : Nat} {own other : List Int} {A B : Option Addr} {ca cb : Nat} (hc' : t.c = c) (hh' : t.h = h) (hs' : t.s = s) (hok : t.Ok) (hI : TabI t W)
    (hp1 : PosP h c own) (hp2 : PosP h c other) (hA : SQ t.S W A h own) (hB : SQ t.S W B h other) (hca : h ≤ ca) (hcb : h ≤ cb) :
    Calls Tryz.prog 22 #[.pointer (some ⟨t.bt, 0, none⟩), .slice A h ca, .slice B h cb] W fun e w' => e = .returned (.tuple #[exV (win s own other), .bool (win s own other).isSome]) ∧ TabI t w' ∧ Frm t.S W w' := by
  subst hc' hh' hs'
  exact (l12Value_all t hok hp1 hp2 A B ca cb W hI hA hca hB hcb).mono fun e w' ⟨h1, h2, h3⟩ => ⟨h1, h2, h3⟩
theorem l12best_at {t : RT2} {W : World} {c h s a b : Nat} {own other : List Int} {A B : Option Addr} {n cl cb : Nat} (hc' : t.c = c) (hh' : t.h = h) (hs' : t.s = s) (hok : t.Ok) (hI : TabI t W)
    (hp1 : PosP h c own) (hp2 : PosP h c other) (hs0 : other.sum ≠ 0) (hb1 : 1 ≤ b) (hb2 : b ≤ a) (ha6 : a ≤ 6) (hpl : PL t.S W A n (resultsL own a b)) (hB : SQ t.S W B h other) (hcb : h ≤ cb) :
    Calls Tryz.prog 54 #[.pointer (some ⟨t.bt, 0, none⟩), .slice A n cl, .slice B h cb] W (RetB2 t W (bestS (sq s) (sec s other) (resultsL own a b))) := by
  subst hc' hh' hs'
  have hv := isVar_yes hok.v
  have hh24 : t.h ≤ 24 := by omega
  exact l12Best_any t hok (resultsL own a b) (fun q h => (results_pos (by omega) hb1 hp1 q h).1) (fun q h => l12After_any t hok (results_pos (by omega) hb1 hp1 q h).1 hs0 (l12Value_all t hok hp2 (results_pos (by omega) hb1 hp1 q h).1)) A B n cl cb W (by rw [← hpl.len]; exact Nat.le_trans (results_len (by omega) hb1 hp1 hh24) (by omega)) hI hpl hB hcb
theorem after_at {t : RT2} {W : World} {c h s : Nat} {q other : List Int} {A B : Option Addr} {ca cb : Nat} (hc' : t.c = c) (hh' : t.h = h) (hs' : t.s = s) (hok : t.Ok) (hI : TabI t W)
    (hp1 : PosP h c q) (hp2 : PosP h c other) (hs0 : other.sum ≠ 0) (hA : SQ t.S W A h q) (hB : SQ t.S W B h other) (hca : h ≤ ca) (hcb : h ≤ cb) :
    Calls Tryz.prog 81 #[.pointer (some ⟨t.bt, 0, none⟩), .slice A h ca, .slice B h cb] W (RetTn t W (sec s other q)) := by
  subst hc' hh' hs'
  exact l12After_any t hok hp1 hs0 (l12Value_all t hok hp2 hp1) A B ca cb W hI hA hca hB hcb
theorem frm_lo {S : Nat → Prop} {w wr w2 : World} (hb : Below w.heap.size w wr) (hf : Frm S wr w2) (hS : ∀ k, S k → w.heap.size ≤ k) : Below w.heap.size w w2 := hb.trans (hf.below hb.size hS)
/-- The element at k: its cell in a later world, what it reads as in the first. -/
theorem PL.atF {S : Nat → Prop} {w w' : World} {A : Option Addr} {n : Nat} {ps : List (List Int)} (h : PL S w A n ps) (hf : Frm S w w') {k : Nat} (hk : k < n) :
    ∃ b off B m c, A = some ⟨b, off, none⟩ ∧ b < w'.heap.size ∧ w'.cell? ⟨b, off + k, none⟩ = some (.slice B m c) ∧ SQ S w B m (ps.getD k []) ∧ m ≤ c := by
  obtain ⟨cs, ⟨hl, hc⟩, ha⟩ := h
  obtain ⟨b, off, hA, hlt, hs, hcell⟩ := hc (by omega)
  obtain ⟨B, m, c, hu, hp, hm⟩ := ha.2 k (by omega)
  exact ⟨b, off, B, m, c, hA, Nat.lt_of_lt_of_le hlt hf.size, hf.cell' (by rw [hcell k (by omega), hu]) hs, hp, hm⟩
end Go.Proofs.YtchaenamdpikpaaGreat

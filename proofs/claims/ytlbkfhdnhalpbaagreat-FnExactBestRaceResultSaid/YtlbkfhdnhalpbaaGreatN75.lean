/- Contract of the reference's BestRaceResult. There are no conditions. -/
import Derived.Test.YtlbkfhdnhalpbaaGreatN71
import Derived.Test.YtlbkfhdnhalpbaaGreatN53
import Derived.Test.YtlbkfhdnhalpbaaGreatL6
namespace Go.Proofs.YtlbkfhdnhalpbaaGreat
set_option linter.unusedVariables false
set_option linter.unusedSimpArgs false
open Go.RowKit Ps Ra Ex

/-- A slice of integers that reads as xs, in a block at base or behind. -/
def SQO (W : World) (base : Nat) (v : Value) (xs : List Int) : Prop := ∃ A c, v = .slice A xs.length c ∧ SQ (fun k => k < base) W A xs.length xs ∧ xs.length ≤ c
theorem SQO.below {W W' : World} {base : Nat} {v : Value} {xs : List Int} (h : SQO W base v xs) (hb : Below W.heap.size W W') : SQO W' base v xs := let ⟨A, c, h1, h2, h3⟩ := h; ⟨A, c, h1, h2.below hb, h3⟩
theorem stO_Q {xs : List Int} : StbO (fun W b v => SQO W b v xs) := fun _ _ _ _ h hb => h.below hb
def RetIq (w : World) (r : List Int × Int) (e : Ending) (w' : World) : Prop := ∃ v base, e = .returned (.tuple #[v, .int .i64 r.2]) ∧ w.heap.size ≤ base ∧ SQO w' base v r.1 ∧ Below w.heap.size w w'
theorem RetIq.no {w w' : World} {r : List Int × Int} {k : Int} (hr : r = ([], k)) (hb : Below w.heap.size w w') : RetIq w r (.returned (.tuple #[.slice none 0 0, .int .i64 k])) w' := by
  subst hr; exact ⟨_, w.heap.size, rfl, Nat.le_refl _, ⟨none, 0, rfl, ⟨⟨rfl, fun h => absurd h (by simp)⟩, fun h => absurd h (by simp)⟩, Nat.le_refl _⟩, hb⟩
theorem RetIq.yes {w w' : World} {r : List Int × Int} {xs : List Int} {A : Option Addr} {n c base : Nat} (hr : r = (xs, 0)) (h0 : w.heap.size ≤ base) (ho : SQ (fun k => k < base) w' A n xs) (hc : n ≤ c) (hb : Below w.heap.size w w') : RetIq w r (.returned (.tuple #[.slice A n c, .int .i64 0])) w' := by
  subst hr
  have hn : xs.length = n := ho.1.1
  subst hn
  exact ⟨_, base, rfl, h0, ⟨A, c, rfl, ho, hc⟩, hb⟩
theorem bstR_len (p c h s ra rb : Int) (own other : List Int) : (bstR p c h s ra rb own other).1.length ≤ 1000000 := by
  unfold bstR
  by_cases hct : codeK p c h s ra rb own other true = 0
  · rw [if_pos hct]
    obtain ⟨ht, hro, hsum⟩ := codeK_ok hct
    obtain ⟨hv, hp1, hp2, hN⟩ := codeT_ok ht
    have hvv := isVar_yes hv
    obtain ⟨a, b, rfl, rfl, ha1, ha2, hb1, hb2⟩ := rollB_nat hro
    obtain ⟨c', rfl⟩ : ∃ c' : Nat, c = c' := ⟨c.toNat, by omega⟩
    obtain ⟨h', rfl⟩ : ∃ h' : Nat, h = h' := ⟨h.toNat, by omega⟩
    have hrp := fun q hq => (results_pos (a := a) (b := b) (by omega) hb1 (posB_pos hp1) q hq).1
    simp only [Int.toNat_natCast]
    cases hal : bestS (sq s.toNat) (sec s.toNat other) (resultsL own a b) with
    | none => simp
    | some t =>
      obtain ⟨k, at', x⟩ := t
      show ((resultsL own a b).getD at' []).length ≤ 1000000
      by_cases hlt : at' < (resultsL own a b).length
      · have := (hrp _ (getD_mem' _ [] hlt)).1
        omega
      · rw [List.getD_eq_getElem?_getD, List.getElem?_eq_none (by omega)]; simp
  · rw [if_neg hct]; simp
set_option maxRecDepth 100000 in
set_option maxHeartbeats 2000000 in
theorem sBestRaceResult_any (p c h s ra rb : Int) (A B : Option Addr) (n m ca cb : Nat) (own other : List Int) (w : World) (hA : SL w A n own) (hB : SL w B m other) (hca : n ≤ ca) (hcb : m ≤ cb) :
    Calls Tryz.prog 17 #[.agg #[.int .i64 p, .int .i64 c, .int .i64 h, .int .i64 s], .slice A n ca, .slice B m cb, .agg #[.int .i64 ra, .int .i64 rb]] w (RetIq w (bstR p c h s ra rb own other)) := by
  have HF1 : Hid (Fr w ((w.alloc (.cells #[.int .i64 p, .int .i64 c, .int .i64 h, .int .i64 s] 29)).alloc (.cells #[.int .i64 ra, .int .i64 rb] 39)) [[.int .i64 p, .int .i64 c, .int .i64 h, .int .i64 s], [.int .i64 ra, .int .i64 rb]]) := ((Fr.start w).allocT (by simp) _ _).allocT (by simp) _ _
  have HA1 := Lib.hid (hA.below HF1.out.b)
  have HB1 := Lib.hid (hB.below HF1.out.b)
  have HAW := Lib.hid hA
  have HBW := Lib.hid hB
  have CT := Lib.hid (l12Code_yes p c h s ra rb A B n m ca cb own other true _ HA1.out HB1.out)
  clear hA hB
  by_cases hct : codeK p c h s ra rb own other true = 0
  · obtain ⟨ht, hro, hsum⟩ := codeK_ok hct
    obtain ⟨hv, hp1, hp2, hN⟩ := codeT_ok ht
    have hvv := isVar_yes hv
    obtain ⟨a, b, rfl, rfl, ha1, ha2, hb1, hb2⟩ := rollB_nat hro
    obtain ⟨c', rfl⟩ : ∃ c' : Nat, c = c' := ⟨c.toNat, by omega⟩
    obtain ⟨h', rfl⟩ : ∃ h' : Nat, h = h' := ⟨h.toNat, by omega⟩
    obtain ⟨s', rfl⟩ : ∃ s' : Nat, s = s' := ⟨s.toNat, by omega⟩
    have hh1 : 0 < h' := by omega
    have hh24 : h' ≤ 24 := by omega
    have HP1 := Lib.hid (posB_pos hp1)
    have HP2 := Lib.hid (posB_pos hp2)
    have ho0 : other.sum ≠ 0 := fun h0 => hsum (.inr ⟨rfl, .inr h0⟩)
    simp only [Int.toNat_natCast] at hN
    have hnh : h' = n := by rw [← HAW.out.1]; exact (HP1.out.1).symm
    have hmh : h' = m := by rw [← HBW.out.1]; exact (HP2.out.1).symm
    subst hnh
    subst hmh
    have HPP := HP1.out
    have CNEW := Lib.hid fun (W : World) => l12New_any p c' h' s' W hv hN
    have CRES := Lib.hid fun (S : Nat → Prop) (W : World) (hA : SL W A h' own) (hS : ∀ x, W.heap.size ≤ x → ¬ S x) => l10Results_any S p c' h' s' A h' ca a b own W hA hca ⟨HPP.1, HPP.2.1, by have := HPP.2.2; omega⟩ hh24 hh1 hb1 hb2 (by omega) hS
    have CBES := Lib.hid fun (t : RT2) (W : World) (A' : Option Addr) (n cl : Nat) (hc' : t.c = c') (hh' : t.h = h') (hs' : t.s = s') (hok : t.Ok) (hI : TabI t W) (hpl : PL t.S W A' n (resultsL own a b)) (hB : SQ t.S W B h' other) => l12best_at (cl := cl) hc' hh' hs' hok hI HPP HP2.out ho0 hb1 hb2 (by omega) hpl hB hcb
    have HNE := Lib.hid (results_some (by omega : 1 ≤ a) hb1 HPP)
    have hlen : (resultsL own a b).length ≤ 1000000 := Nat.le_trans (results_len (by omega) hb1 HPP hh24) (by omega)
    have HW0 : Hid (bstR p c' h' s' a b own other = match bestS (sq s') (sec s' other) (resultsL own a b) with | none => ([], 3) | some (_, at', _) => ((resultsL own a b).getD at' [], 0)) := by
      unfold Hid bstR
      rw [if_pos hct]
      simp only [Int.toNat_natCast]
      rfl
    rw [hct] at CT
    clear hct ht hro hsum hv hp1 hp2 hN hvv HPP ha1 ha2 hb1 hb2 ho0
    generalize resultsL own a b = L at *
    go_enter Tryz.func17, Tryz.ntmps17
    go_wp2_with (fail)
    refine CT.out.mono ?_
    rintro e w1 ⟨rfl, hbb⟩
    have HF2 := Lib.hid (HF1.out.below hbb)
    have HA2 := Lib.hid (HA1.out.below hbb)
    have HB2 := Lib.hid (HB1.out.below hbb)
    clear CT hbb HF1 HA1 HB1
    have z0 := HF2.out.l0 (by simp)
    have c00 := HF2.out.c0 0 rfl
    have f00 := HF2.out.f0 0 rfl
    have c01 := HF2.out.c0 1 rfl
    have f01 := HF2.out.f0 1 rfl
    have c02 := HF2.out.c0 2 rfl
    have f02 := HF2.out.f0 2 rfl
    have c03 := HF2.out.c0 3 rfl
    have f03 := HF2.out.f0 3 rfl
    have z1 := HF2.out.l1 (by simp)
    have c10 := HF2.out.c1 0 rfl
    have f10 := HF2.out.f1 0 rfl
    have c11 := HF2.out.c1 1 rfl
    have f11 := HF2.out.f1 1 rfl
    go_wp2_with (fail)
    refine (CRES.out (fun k => k < w1.heap.size) _ HA2.out (fun k hk h => by omega)).mono ?_
    rintro e w2 ⟨bl, ol, nl, cl, rfl, hpl, hcl, hb3⟩
    have HF3 := Lib.hid (HF2.out.below hb3)
    have HB3 := Lib.hid (HB2.out.below hb3)
    have hnl := hpl.len
    have HNL := Lib.hid hnl
    have hnl6 : nl ≤ 1000000 := by rw [← hnl]; exact hlen
    have HPL : Hid (PL (fun k => k < w1.heap.size ∨ w2.heap.size ≤ k) w2 (some ⟨bl, ol, none⟩) nl L) := hpl.set fun k hk => hk
    have hz1 : w.heap.size ≤ w1.heap.size := HF2.out.b.size
    have hz2 : w1.heap.size ≤ w2.heap.size := hb3.size
    clear hb3 hpl hnl HF2 HA2 HB2 CRES
    clear z0 c00 f00 c01 f01 c02 f02 c03 f03 z1 c10 f10 c11 f11
    have z0 := HF3.out.l0 (by simp)
    have c00 := HF3.out.c0 0 rfl
    have f00 := HF3.out.f0 0 rfl
    have c01 := HF3.out.c0 1 rfl
    have f01 := HF3.out.f0 1 rfl
    have c02 := HF3.out.c0 2 rfl
    have f02 := HF3.out.f0 2 rfl
    have c03 := HF3.out.c0 3 rfl
    have f03 := HF3.out.f0 3 rfl
    have z1 := HF3.out.l1 (by simp)
    have c10 := HF3.out.c1 0 rfl
    have f10 := HF3.out.f1 0 rfl
    have c11 := HF3.out.c1 1 rfl
    have f11 := HF3.out.f1 1 rfl
    go_wp2_with (fail)
    refine (CNEW.out _).mono ?_
    rintro e w3 ⟨t, _, hc', hh', hs', rfl, hok, hI, hlow, hbt, hb2⟩
    have HLOW : Hid (∀ k, t.S k → w2.heap.size ≤ k) := hlow
    have HF4 := Lib.hid (HF3.out.below hb2)
    have HB4 := Lib.hid ((SQ.of_sl HB3.out hlow).below hb2)
    have HPL4 := Lib.hid (HPL.out.below hb2)
    have HPT : Hid (PL t.S w3 (some ⟨bl, ol, none⟩) nl L) := HPL4.out.set fun k hk => .inl (.inr (hlow k hk))
    have CB := Lib.hid (CBES.out t w3 _ _ cl hc' hh' hs' hok hI HPT.out HB4.out)
    clear hc' hh' hs' hok hI hlow hbt hb2 HB3 HF3 CNEW CBES HPL HPT HB4
    clear z0 c00 f00 c01 f01 c02 f02 c03 f03 z1 c10 f10 c11 f11
    go_wp2_with (fail)
    refine CB.out.mono ?_
    rintro e w4 ⟨hI5, hf5, hres⟩
    have HBW4 := Lib.hid (frm_lo HF4.out.b hf5 (fun k hk => by have := HLOW.out k hk; omega))
    have HPL5 := Lib.hid (HPL4.out.frm (hf5.mono fun k hk => .inr (HLOW.out k hk)))
    have hz4 : w.heap.size ≤ w4.heap.size := HBW4.out.size
    clear hI5 hf5 CB HPL4 HF4 HLOW
    rcases hbs : bestS (sq s') (sec s' other) L with _ | ⟨cnt, at', ⟨xn, xd⟩⟩
    · have HWR : Hid (bstR p c' h' s' a b own other = ([], 3)) := by unfold Hid; rw [HW0.out, hbs]
      rw [hbs] at hres
      replace hres := (show e = .returned (.tuple #[.int .i64 0, .agg #[.int .i64 0, .int .i64 0], .bool false]) from hres)
      subst hres
      clear hbs HW0
      go_wp2_with (fail)
      go_ret2
      exact RetIq.no HWR.out (alw HBW4.out (by omega))
    · have HWR : Hid (bstR p c' h' s' a b own other = (L.getD at' [], 0)) := by unfold Hid; rw [HW0.out, hbs]
      have hat : at' < nl := by
        have h := (bestS_count hbs).2
        rw [← HNL.out]
        rcases h with h | h
        · exact h
        · exact absurd h HNE.out
      rw [hbs] at hres
      replace hres := (show e = .returned (.tuple #[.int .i64 (at' : Int), .agg #[.int .i64 xn, .int .i64 (xd : Int)], .bool true]) from hres)
      subst hres
      have HPL6 := Lib.hid (HPL5.out.alloc (.cells #[.int .i64 xn, .int .i64 (xd : Int)] 26))
      obtain ⟨_, _, Bq, mq, cq, hA3, hzl, hcq, hsq, hmq⟩ := HPL6.out.at hat
      injection hA3 with hA3
      injection hA3 with hA4 hA5
      subst hA4 hA5
      have HSQ : Hid (SQ (fun k => k < w1.heap.size) (w4.alloc (.cells #[.int .i64 xn, .int .i64 (xd : Int)] 26)) Bq mq (L.getD at' [])) := hsq.set fun k hk => .inl (.inl hk)
      have hai : (at' : Int) < (nl : Int) := by omega
      clear hbs HW0 hsq HPL5 HPL6
      go_wp2_with (fail)
      go_ret2
      exact RetIq.yes HWR.out hz1 HSQ.out hmq (alw HBW4.out (by omega))
  · have HWR : Hid (bstR p c h s ra rb own other = ([], codeK p c h s ra rb own other true)) := by
      unfold Hid bstR
      rw [if_neg hct]
    generalize codeK p c h s ra rb own other true = k at *
    have b0 : (k != 0) = true := by simp [hct]
    clear hct
    go_enter Tryz.func17, Tryz.ntmps17
    go_wp2_with (fail)
    refine CT.out.mono ?_
    rintro e w1 ⟨rfl, hb1⟩
    have HF2 := Lib.hid (HF1.out.below hb1)
    clear CT hb1 HF1 HA1 HB1
    have z0 := HF2.out.l0 (by simp)
    have c00 := HF2.out.c0 0 rfl
    have f00 := HF2.out.f0 0 rfl
    have c01 := HF2.out.c0 1 rfl
    have f01 := HF2.out.f0 1 rfl
    have c02 := HF2.out.c0 2 rfl
    have f02 := HF2.out.f0 2 rfl
    have c03 := HF2.out.c0 3 rfl
    have f03 := HF2.out.f0 3 rfl
    have z1 := HF2.out.l1 (by simp)
    have c10 := HF2.out.c1 0 rfl
    have f10 := HF2.out.f1 0 rfl
    have c11 := HF2.out.c1 1 rfl
    have f11 := HF2.out.f1 1 rfl
    go_wp2_with (fail)
    go_ret2
    exact RetIq.no HWR.out HF2.out.b
end Go.Proofs.YtlbkfhdnhalpbaaGreat

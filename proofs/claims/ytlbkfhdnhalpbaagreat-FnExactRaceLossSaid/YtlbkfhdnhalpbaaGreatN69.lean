/- Contracts of the search for a result and of the program's RaceLoss. There are no conditions. -/
import Derived.Test.YtlbkfhdnhalpbaaGreatN57
import Derived.Test.YtlbkfhdnhalpbaaGreatN55
import Derived.Test.YtlbkfhdnhalpbaaGreatN54
namespace Go.Proofs.YtlbkfhdnhalpbaaGreat
set_option linter.unusedVariables false
set_option linter.unusedSimpArgs false
open Go.RowKit Ps Ra Ex

/-- The code of a race with a result. -/
def codeL (p c h s ra rb : Int) (own other res : List Int) : Int := if codeK p c h s ra rb own other true ≠ 1 ∧ posB h c res = false then 2 else codeK p c h s ra rb own other true
theorem codeK_var {p c h s ra rb : Int} {own other : List Int} {both : Bool} (H : codeK p c h s ra rb own other both ≠ 1) : isVar p c h s = true := by
  cases hv : isVar p c h s with
  | true => rfl
  | false => exact absurd (codeK_1 (codeT_var hv)) H
noncomputable def lossE (s : Nat) (own other res : List Int) (a b : Nat) : Option E := match bestS (sq s) (sec s other) (resultsL own a b), sec s other res with
  | some (_, _, x), some y => minE (sq s) x y
  | _, _ => none

noncomputable def lossR (p c h s ra rb : Int) (own other res : List Int) : Int × Int × Int := if codeL p c h s ra rb own other res = 0 then
  (if res ∈ resultsL own ra.toNat rb.toNat then numR (lossE s.toNat own other res ra.toNat rb.toNat) else (0, 0, 4)) else (0, 0, codeL p c h s ra rb own other res)
theorem mem_iff_at {ps : List (List Int)} {q : List Int} : q ∈ ps ↔ ∃ j, j < ps.length ∧ ps.getD j [] = q := by
  constructor
  · intro h
    obtain ⟨j, hj, h⟩ := List.getElem_of_mem h
    exact ⟨j, hj, by rw [List.getD_eq_getElem?_getD, List.getElem?_eq_getElem hj]; exact h⟩
  · rintro ⟨j, hj, rfl⟩
    exact getD_mem' ps [] hj
theorem found_any (Aq D : Option Addr) (n ca cd g : Nat) (q res : List Int) (w : World) (hx : SL w Aq n q) (hy : SL w D n res) (hg : w.cell? ⟨g, 0, none⟩ = some (.slice D n cd)) (hn : n ≤ 2000) :
    Calls Tryz.prog 129 #[.slice Aq n ca, .pointer (some ⟨g, 0, none⟩)] w fun e w' => e = .returned (.bool (decide (q = res))) ∧ ∃ m, w' = w.drewN m := by
  have CE := Lib.hid (Equal_any Aq D n ca cd q res w hx hy hn)
  clear hx hy
  go_enter Tryz.func129, Tryz.ntmps129
  go_wp2_with (go_at_call 130; (with_reducible refine CE.out.mono ?_); rintro e w' ⟨rfl, m, rfl⟩)
  go_ret
  exact ⟨rfl, m, rfl⟩
set_option maxRecDepth 10000 in
theorem IndexFunc_any (S : Nat → Prop) (A D : Option Addr) (n c h cd g : Nat) (ps : List (List Int)) (res : List Int) (w : World) (hp : PL S w A n ps) (hl : ∀ p ∈ ps, p.length = h) (hy : SL w D h res) (hg : w.cell? ⟨g, 0, none⟩ = some (.slice D h cd)) (hh : h ≤ 2000) (hn : n ≤ 1000000) (hc : n ≤ c) :
    Calls Tryz.prog 182 #[.slice A n c, .func (.func 129) #[] #[.pointer (some ⟨g, 0, none⟩)]] w fun e w' => ∃ k : Int, e = .returned (.int .i64 k) ∧ -1 ≤ k ∧ k ≤ n ∧ (0 ≤ k ↔ res ∈ ps) ∧ ∃ m, w' = w.drewN m := by
  have HP := Lib.hid hp
  have HLN := Lib.hid hl
  have HY := Lib.hid hy
  have HG := Lib.hid hg
  have HPN := Lib.hid hp.len
  clear hp hl hy hg
  go_enter Tryz.func182, Tryz.ntmps182
  go_wp2_with (fail)
  go_loopw [8] (fun v8 wr => ∃ k : Nat, k ≤ n ∧ v8 = .int .i64 k ∧ Hid (∀ j, j < k → ps.getD j [] ≠ res) ∧ Hid (∃ m, wr = w.drewN m)) (fun v8 _ => n - (intOf v8).toNat)
  case atStart => exact ⟨0, by omega, rfl, fun j hj => by omega, 0, rfl⟩
  case round =>
    obtain ⟨k, hk, rfl, hno, hw⟩ := hrel
    by_cases hlt : k < n
    · have hki : (k : Int) < (n : Int) := by omega
      obtain ⟨m0, hm0⟩ := hw.out
      obtain ⟨bl, ol, Bq, mq, cq, rfl, hzl, hcq, hsq, hmq⟩ := HP.out.atF (w' := wr) (by rw [hm0]; exact (Frm.refl S w).drewN m0) hlt
      have hmem := getD_mem' ps [] (k := k) (by rw [HPN.out]; exact hlt)
      have hmh : h = mq := by rw [← hsq.1.1]; exact (HLN.out _ hmem).symm
      subst hmh
      have FE := Lib.hid (found_any Bq D h cq cd g (ps.getD k []) res wr (by rw [hm0]; exact hsq.1) (by rw [hm0]; exact HY.out) (by rw [hm0]; exact HG.out) hh)
      clear hsq hm0
      by_cases hq : ps.getD k [] = res
      · have b0 : decide (ps.getD k [] = res) = true := decide_eq_true hq
        rw [b0] at FE
        have HM : Hid (res ∈ ps) := by rw [← hq]; exact hmem
        clear b0 hq hmem
        go_wp2_with (go_at_call 129; (with_reducible refine FE.out.mono ?_); rintro e w' ⟨rfl, m, rfl⟩)
        go_ret
        exact ⟨_, rfl, by omega, by omega, ⟨fun _ => HM.out, fun _ => by omega⟩, drw_ex hw.out⟩
      · have b0 : decide (ps.getD k [] = res) = false := decide_eq_false hq
        rw [b0] at FE
        have HN2 : Hid (∀ j, j < k + 1 → ps.getD j [] ≠ res) := fun j hj => by
          by_cases h : j = k
          · rw [h]; exact hq
          · exact hno.out j (by omega)
        clear b0 hq hmem
        go_wp2_with (go_at_call 129; (with_reducible refine FE.out.mono ?_); rintro e w' ⟨rfl, m, rfl⟩)
        go_roundw
        case rel => exact ⟨k + 1, by omega, by go_num, HN2.out, drw_ex hw.out⟩
        case measure => (simp [intOf]) <;> omega
    · have hke : k = n := by omega
      have HM : Hid (res ∉ ps) := fun h => by
        obtain ⟨j, hj, he⟩ := mem_iff_at.1 h
        exact hno.out j (by rw [HPN.out] at hj; omega) he
      clear hno
      go_wp2_with (fail)
      go_ret
      exact ⟨_, rfl, by omega, by omega, ⟨fun h => by omega, fun h => absurd h HM.out⟩, hw.out⟩
set_option maxRecDepth 10000 in

theorem ContainsFunc_any (S : Nat → Prop) (A D : Option Addr) (n c h cd g : Nat) (ps : List (List Int)) (res : List Int) (w : World) (hp : PL S w A n ps) (hl : ∀ p ∈ ps, p.length = h) (hy : SL w D h res) (hg : w.cell? ⟨g, 0, none⟩ = some (.slice D h cd)) (hh : h ≤ 2000) (hn : n ≤ 1000000) (hc : n ≤ c) :
    Calls Tryz.prog 128 #[.slice A n c, .func (.func 129) #[] #[.pointer (some ⟨g, 0, none⟩)]] w fun e w' => e = .returned (.bool (decide (res ∈ ps))) ∧ ∃ m, w' = w.drewN m := by
  have CX := Lib.hid (IndexFunc_any S A D n c h cd g ps res w hp hl hy hg hh hn hc)
  clear hp hl hy hg
  go_enter Tryz.func128, Tryz.ntmps128
  go_wp2_with (fail)
  refine CX.out.mono ?_
  rintro e w' ⟨k, rfl, h1, h2, h3, m, rfl⟩
  by_cases hm : res ∈ ps
  · have h0 := h3.2 hm
    have HD : Hid (decide (res ∈ ps) = true) := decide_eq_true hm
    clear h3 hm
    go_wp2_with (fail)
    go_ret
    exact ⟨by rw [HD.out]; simp [h0], m, rfl⟩
  · have h0 : ¬ 0 ≤ k := fun h => hm (h3.1 h)
    have HD : Hid (decide (res ∈ ps) = false) := decide_eq_false hm
    clear h3 hm
    go_wp2_with (fail)
    go_ret
    exact ⟨by rw [HD.out]; simp [h0], m, rfl⟩
end Go.Proofs.YtlbkfhdnhalpbaaGreat

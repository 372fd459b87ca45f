/- Contracts on contact and solved boards of small variants. There are no conditions beyond those that each states. -/
import Derived.Test.YtchaenamdpikpaaGreatN80
namespace Go.Proofs.YtchaenamdpikpaaGreat
set_option linter.unusedVariables false
set_option linter.unusedSimpArgs false
open Go.RowKit Ps

def solvB (p h : Int) (own other : List Int) : Bool := decide (own.sum = 0 ∨ other.sum = 0 ∨ (¬ p ≤ topI own own.length + topI other other.length ∧ topI own own.length < h ∧ topI other other.length < h))

set_option maxHeartbeats 1000000 in
theorem hasContact_any (p c h s : Int) (A1 A2 : Option Addr) (n1 c1 n2 c2 : Nat) (own other : List Int) (w : World) (h1 : SL w A1 n1 own) (h2 : SL w A2 n2 other) (hq1 : ∀ x ∈ own, 0 ≤ x) (hq2 : ∀ x ∈ other, 0 ≤ x) (hm1 : own.sum ≤ 2000000) (hm2 : other.sum ≤ 2000000) (hn1 : n1 ≤ 2000) (hn2 : n2 ≤ 2000)
    (hz1 : own.sum ≠ 0) (hz2 : other.sum ≠ 0) (hp : 0 ≤ p) (hp2 : p ≤ 100) :
    Calls Tryz.prog 76 #[.agg #[.int .i64 p, .int .i64 c, .int .i64 h, .int .i64 s], .agg #[.slice A1 n1 c1, .slice A2 n2 c2]] w fun e w' => e = .returned (.bool (decide (p ≤ topI own own.length + topI other other.length))) ∧ Below w.heap.size w w' := by
  have HB : Hid (Below w.heap.size w ((w.alloc (.cells #[.int .i64 p, .int .i64 c, .int .i64 h, .int .i64 s] 25)).alloc (.cells #[.slice A1 n1 c1, .slice A2 n2 c2] 40))) := ((Below.refl _ _).alloc (Nat.le_refl _) _).alloc (by simp) _
  have HBZ : Hid (w.heap.size ≤ ((w.alloc (.cells #[.int .i64 p, .int .i64 c, .int .i64 h, .int .i64 s] 25)).alloc (.cells #[.slice A1 n1 c1, .slice A2 n2 c2] 40)).heap.size) := HB.out.size
  have H1 := Lib.hid (h1.below HB.out)
  have H2 := Lib.hid (h2.below HB.out)
  obtain rfl : own.length = n1 := h1.1
  obtain rfl : other.length = n2 := h2.1
  have x0 := topI_pos hq1 hz1
  have y0 := topI_pos hq2 hz2
  have x1 := (topI_bd own own.length).2
  have y1 := (topI_bd other other.length).2
  have CO := Lib.hid fun t => boardOver_any A1 A2 own.length c1 other.length c2 own other (more _ t) (H1.out.more t) (H2.out.more t) hq1 hq2 hm1 hm2 (by omega) (by omega)
  have CH1 := Lib.hid fun t => highest_any A1 own.length c1 own (more _ t) (H1.out.more t) hn1
  have CH2 := Lib.hid fun t => highest_any A2 other.length c2 other (more _ t) (H2.out.more t) hn2
  have hov : decide (own.sum = 0 ∨ other.sum = 0) = false := decide_eq_false fun h => h.elim hz1 hz2
  rw [hov] at CO
  clear h1 h2 hq1 hq2 hm1 hm2 hz1 hz2 hov
  generalize topI own own.length = x at *
  generalize topI other other.length = y at *
  have hxy1 : x + y ≤ 10000 := by omega
  have hxy0 : 0 ≤ x + y := by omega
  by_cases hc : p ≤ x + y
  · have HR : Hid (decide (p ≤ x + y) = true) := decide_eq_true hc
    go_enter Tryz.func76, Tryz.ntmps76
    go_wp2_with (fail)
    first | refine wp_region_more2 (by kernel_rfl) (by kernel_rfl) ?_ | refine wp_region_more (by kernel_rfl) (by kernel_rfl) ?_
    repeat (first | go_big_quiet_step ((first | (go_at_call 75; exact more_call (CO.out _)) | (go_at_call_of 77 A1; exact more_same (CH1.out _)) | (go_at_call_of 77 A2; exact more_same (CH2.out _)))) | quiet_step ((first | (go_at_call 75; exact more_call (CO.out _)) | (go_at_call_of 77 A1; exact more_same (CH1.out _)) | (go_at_call_of 77 A2; exact more_same (CH2.out _)))))
    refine wpQuiet_nil ?_
    intro _ hw'
    obtain ⟨t2, hw''⟩ := hw'
    subst hw''
    go_wp2_with (fail)
    go_ret
    exact ⟨by rw [HR.out]; first | rfl | (simp <;> first | omega | assumption), by repeat (first | exact HB.out | refine Below.trans ?_ (Below.mono (below_more _ _) (by first | exact HBZ.out | exact Nat.le_trans HBZ.out (size_more _ _) | exact Nat.le_trans (Nat.le_trans HBZ.out (size_more _ _)) (size_more _ _))))⟩
  · have HR : Hid (decide (p ≤ x + y) = false) := decide_eq_false hc
    go_enter Tryz.func76, Tryz.ntmps76
    go_wp2_with (fail)
    first | refine wp_region_more2 (by kernel_rfl) (by kernel_rfl) ?_ | refine wp_region_more (by kernel_rfl) (by kernel_rfl) ?_
    repeat (first | go_big_quiet_step ((first | (go_at_call 75; exact more_call (CO.out _)) | (go_at_call_of 77 A1; exact more_same (CH1.out _)) | (go_at_call_of 77 A2; exact more_same (CH2.out _)))) | quiet_step ((first | (go_at_call 75; exact more_call (CO.out _)) | (go_at_call_of 77 A1; exact more_same (CH1.out _)) | (go_at_call_of 77 A2; exact more_same (CH2.out _)))))
    refine wpQuiet_nil ?_
    intro _ hw'
    obtain ⟨t2, hw''⟩ := hw'
    subst hw''
    go_wp2_with (fail)
    go_ret
    exact ⟨by rw [HR.out]; first | rfl | (simp <;> first | omega | assumption), by repeat (first | exact HB.out | refine Below.trans ?_ (Below.mono (below_more _ _) (by first | exact HBZ.out | exact Nat.le_trans HBZ.out (size_more _ _) | exact Nat.le_trans (Nat.le_trans HBZ.out (size_more _ _)) (size_more _ _))))⟩
set_option maxHeartbeats 1000000 in
theorem l02Contact_any (p c h s : Int) (A1 A2 : Option Addr) (n1 c1 n2 c2 : Nat) (own other : List Int) (w : World) (h1 : SL w A1 n1 own) (h2 : SL w A2 n2 other) (hq1 : ∀ x ∈ own, 0 ≤ x) (hq2 : ∀ x ∈ other, 0 ≤ x) (hm1 : own.sum ≤ 2000000) (hm2 : other.sum ≤ 2000000) (hn1 : n1 ≤ 2000) (hn2 : n2 ≤ 2000)
    (hz1 : own.sum ≠ 0) (hz2 : other.sum ≠ 0) (hp : 0 ≤ p) (hp2 : p ≤ 100) :
    Calls Tryz.prog 70 #[.agg #[.int .i64 p, .int .i64 c, .int .i64 h, .int .i64 s], .agg #[.slice A1 n1 c1, .slice A2 n2 c2]] w fun e w' => e = .returned (.bool (decide (p ≤ topI own own.length + topI other other.length))) ∧ Below w.heap.size w w' := by
  have HB : Hid (Below w.heap.size w ((w.alloc (.cells #[.int .i64 p, .int .i64 c, .int .i64 h, .int .i64 s] 25)).alloc (.cells #[.slice A1 n1 c1, .slice A2 n2 c2] 40))) := ((Below.refl _ _).alloc (Nat.le_refl _) _).alloc (by simp) _
  have HBZ : Hid (w.heap.size ≤ ((w.alloc (.cells #[.int .i64 p, .int .i64 c, .int .i64 h, .int .i64 s] 25)).alloc (.cells #[.slice A1 n1 c1, .slice A2 n2 c2] 40)).heap.size) := HB.out.size
  have H1 := Lib.hid (h1.below HB.out)
  have H2 := Lib.hid (h2.below HB.out)
  obtain rfl : own.length = n1 := h1.1
  obtain rfl : other.length = n2 := h2.1
  have x0 := topI_pos hq1 hz1
  have y0 := topI_pos hq2 hz2
  have x1 := (topI_bd own own.length).2
  have y1 := (topI_bd other other.length).2
  have CO := Lib.hid fun t => l02Over_any A1 A2 own.length c1 other.length c2 own other (more _ t) (H1.out.more t) (H2.out.more t) hq1 hq2 hm1 hm2 (by omega) (by omega)
  have CH1 := Lib.hid fun t => l02Last_any A1 own.length c1 own (more _ t) (H1.out.more t) hn1
  have CH2 := Lib.hid fun t => l02Last_any A2 other.length c2 other (more _ t) (H2.out.more t) hn2
  have hov : decide (own.sum = 0 ∨ other.sum = 0) = false := decide_eq_false fun h => h.elim hz1 hz2
  rw [hov] at CO
  clear h1 h2 hq1 hq2 hm1 hm2 hz1 hz2 hov
  generalize topI own own.length = x at *
  generalize topI other other.length = y at *
  have hxy1 : x + y ≤ 10000 := by omega
  have hxy0 : 0 ≤ x + y := by omega
  by_cases hc : p ≤ x + y
  · have HR : Hid (decide (p ≤ x + y) = true) := decide_eq_true hc
    go_enter Tryz.func70, Tryz.ntmps70
    go_wp2_with (fail)
    first | refine wp_region_more2 (by kernel_rfl) (by kernel_rfl) ?_ | refine wp_region_more (by kernel_rfl) (by kernel_rfl) ?_
    repeat (first | go_big_quiet_step ((first | (go_at_call_of 71 A1; exact more_same (CH1.out _)) | (go_at_call_of 71 A2; exact more_same (CH2.out _)))) | quiet_step ((first | (go_at_call_of 71 A1; exact more_same (CH1.out _)) | (go_at_call_of 71 A2; exact more_same (CH2.out _)))))
    refine wpQuiet_nil ?_
    intro _ hw'
    obtain ⟨t2, hw''⟩ := hw'
    subst hw''
    go_wp2_with (fail)
    go_ret
    exact ⟨by rw [HR.out]; first | rfl | (simp <;> first | omega | assumption), by repeat (first | exact HB.out | refine Below.trans ?_ (Below.mono (below_more _ _) (by first | exact HBZ.out | exact Nat.le_trans HBZ.out (size_more _ _) | exact Nat.le_trans (Nat.le_trans HBZ.out (size_more _ _)) (size_more _ _))))⟩
  · have HR : Hid (decide (p ≤ x + y) = false) := decide_eq_false hc
    go_enter Tryz.func70, Tryz.ntmps70
    go_wp2_with (fail)
    first | refine wp_region_more2 (by kernel_rfl) (by kernel_rfl) ?_ | refine wp_region_more (by kernel_rfl) (by kernel_rfl) ?_
    repeat (first | go_big_quiet_step ((first | (go_at_call_of 71 A1; exact more_same (CH1.out _)) | (go_at_call_of 71 A2; exact more_same (CH2.out _)))) | quiet_step ((first | (go_at_call_of 71 A1; exact more_same (CH1.out _)) | (go_at_call_of 71 A2; exact more_same (CH2.out _)))))
    refine wpQuiet_nil ?_
    intro _ hw'
    obtain ⟨t2, hw''⟩ := hw'
    subst hw''
    go_wp2_with (fail)
    go_ret
    exact ⟨by rw [HR.out]; first | rfl | (simp <;> first | omega | assumption), by repeat (first | exact HB.out | refine Below.trans ?_ (Below.mono (below_more _ _) (by first | exact HBZ.out | exact Nat.le_trans HBZ.out (size_more _ _) | exact Nat.le_trans (Nat.le_trans HBZ.out (size_more _ _)) (size_more _ _))))⟩

set_option maxHeartbeats 1000000 in
theorem solvedBoard_any (p c h s : Int) (A1 A2 : Option Addr) (n1 c1 n2 c2 : Nat) (own other : List Int) (w : World) (h1 : SL w A1 n1 own) (h2 : SL w A2 n2 other) (hq1 : ∀ x ∈ own, 0 ≤ x) (hq2 : ∀ x ∈ other, 0 ≤ x) (hm1 : own.sum ≤ 2000000) (hm2 : other.sum ≤ 2000000) (hn1 : n1 ≤ 2000) (hn2 : n2 ≤ 2000)
    (hv : smB p c h s = true) :
    Calls Tryz.prog 38 #[.agg #[.int .i64 p, .int .i64 c, .int .i64 h, .int .i64 s], .agg #[.slice A1 n1 c1, .slice A2 n2 c2]] w fun e w' => e = .returned (.bool (solvB p h own other)) ∧ Below w.heap.size w w' := by
  have HB : Hid (Below w.heap.size w ((w.alloc (.cells #[.int .i64 p, .int .i64 c, .int .i64 h, .int .i64 s] 25)).alloc (.cells #[.slice A1 n1 c1, .slice A2 n2 c2] 40))) := ((Below.refl _ _).alloc (Nat.le_refl _) _).alloc (by simp) _
  have HBZ : Hid (w.heap.size ≤ ((w.alloc (.cells #[.int .i64 p, .int .i64 c, .int .i64 h, .int .i64 s] 25)).alloc (.cells #[.slice A1 n1 c1, .slice A2 n2 c2] 40)).heap.size) := HB.out.size
  have H1 := Lib.hid (h1.below HB.out)
  have H2 := Lib.hid (h2.below HB.out)
  obtain rfl : own.length = n1 := h1.1
  obtain rfl : other.length = n2 := h2.1
  obtain ⟨hvv, hp6, hc3, hs3⟩ := smB_yes hv
  obtain ⟨v1, v2, v3, v4, v5, v6, v7, v8⟩ := isVar_yes hvv
  obtain ⟨c', rfl⟩ : ∃ c' : Nat, c = c' := ⟨c.toNat, by omega⟩
  obtain ⟨h', rfl⟩ : ∃ h' : Nat, h = h' := ⟨h.toNat, by omega⟩
  have hw := wys_small (h := h') (c := c') (by omega) (by omega)
  have hwc : wysC h' c' = wys h' c' := wysC_ok (by omega)
  have CO := Lib.hid (boardOver_any A1 A2 own.length c1 other.length c2 own other _ H1.out H2.out hq1 hq2 hm1 hm2 (by omega) (by omega))
  have CC0 := fun (hz1 : own.sum ≠ 0) (hz2 : other.sum ≠ 0) t => hasContact_any p c' h' s A1 A2 own.length c1 other.length c2 own other (more _ t) (H1.out.more t) (H2.out.more t) hq1 hq2 hm1 hm2 hn1 hn2 hz1 hz2 (by omega) (by omega)
  have CH1 := Lib.hid fun t => highest_any A1 own.length c1 own (more _ t) (H1.out.more t) hn1
  have CH2 := Lib.hid fun t => highest_any A2 other.length c2 other (more _ t) (H2.out.more t) hn2
  have CN0 := fun (W : World) => BearoffCount_any p s c' h' W hvv
  rw [hwc] at CN0
  have CN := Lib.hid CN0
  have hN0 : (0 : Int) ≤ (wys h' c' : Int) := by omega
  have hN5 : (wys h' c' : Int) ≤ 500 := by omega
  have hI : inB (wys h' c' : Int) 0 500 = true := inB_yes ⟨hN0, hN5⟩
  have CI0 := fun (W : World) => l01In_any (wys h' c' : Int) 0 500 W
  rw [hI] at CI0
  have CI := Lib.hid CI0
  have x1 := topI_bd own own.length
  have y1 := topI_bd other other.length
  have HS0 : Hid (solvB p h' own other = decide (own.sum = 0 ∨ other.sum = 0 ∨ (¬ p ≤ topI own own.length + topI other other.length ∧ topI own own.length < h' ∧ topI other other.length < h'))) := rfl
  clear h1 h2 hq1 hq2 hm1 hm2 hwc CN0 CI0 hI hw hv hvv
  generalize (wys h' c' : Int) = N at *
  by_cases hov : own.sum = 0 ∨ other.sum = 0
  · have HR : Hid (solvB p h' own other = true) := by unfold Hid; rw [HS0.out]; exact decide_eq_true (hov.elim .inl fun h => .inr (.inl h))
    rw [decide_eq_true hov] at CO
    clear CC0 hov HS0
    go_enter Tryz.func38, Tryz.ntmps38
    go_wp2_with (go_at_call 75; refine (more_first CO.out).mono ?_; rintro e w' ⟨rfl, t, rfl⟩)
    go_ret
    exact ⟨by rw [HR.out]; first | rfl | (simp <;> first | omega | assumption), by repeat (first | exact HB.out | refine Below.trans ?_ (Below.mono (below_more _ _) (by first | exact HBZ.out | exact Nat.le_trans HBZ.out (size_more _ _) | exact Nat.le_trans (Nat.le_trans HBZ.out (size_more _ _)) (size_more _ _))))⟩
  · have CC1 := CC0 (fun h => hov (.inl h)) (fun h => hov (.inr h))
    have HS : Hid (solvB p h' own other = decide (¬ p ≤ topI own own.length + topI other other.length ∧ topI own own.length < h' ∧ topI other other.length < h')) := by
      unfold Hid
      rw [HS0.out]
      refine decide_eq_decide.2 ⟨fun h => ?_, fun h => .inr (.inr h)⟩
      rcases h with h | h | h
      · exact absurd (.inl h) hov
      · exact absurd (.inr h) hov
      · exact h
    rw [decide_eq_false hov] at CO
    clear CC0 hov HS0
    generalize topI own own.length = x at *
    generalize topI other other.length = y at *
    by_cases hc : p ≤ x + y
    · have HR : Hid (solvB p h' own other = false) := by unfold Hid; rw [HS.out]; exact decide_eq_false fun h => h.1 hc
      rw [decide_eq_true hc] at CC1
      have CC := Lib.hid CC1
      clear CC1 hc HS
      go_enter Tryz.func38, Tryz.ntmps38
      go_wp2_with (first | (go_at_call 75; refine (more_first CO.out).mono ?_; rintro e w' ⟨rfl, t, rfl⟩) | (go_at_call 60; refine (more_call (CN.out _)).mono ?_; rintro e w' ⟨rfl, t3, rfl⟩))
      first | refine wp_region_more2 (by kernel_rfl) (by kernel_rfl) ?_ | refine wp_region_more (by kernel_rfl) (by kernel_rfl) ?_
      repeat (first | go_big_quiet_step ((first | (go_at_call 76; exact more_call (CC.out _)) | (go_at_call_of 77 A1; exact more_same (CH1.out _)) | (go_at_call_of 77 A2; exact more_same (CH2.out _)))) | quiet_step ((first | (go_at_call 76; exact more_call (CC.out _)) | (go_at_call_of 77 A1; exact more_same (CH1.out _)) | (go_at_call_of 77 A2; exact more_same (CH2.out _)))))
      refine wpQuiet_nil ?_
      intro _ hw'
      obtain ⟨t2, hw''⟩ := hw'
      subst hw''
      go_wp2_with (fail)
      go_ret
      exact ⟨by rw [HR.out]; first | rfl | (simp <;> first | omega | assumption), by repeat (first | exact HB.out | refine Below.trans ?_ (Below.mono (below_more _ _) (by first | exact HBZ.out | exact Nat.le_trans HBZ.out (size_more _ _) | exact Nat.le_trans (Nat.le_trans HBZ.out (size_more _ _)) (size_more _ _))))⟩
    · rw [decide_eq_false hc] at CC1
      have CC := Lib.hid CC1
      by_cases hx : x < h'
      · have dx : decide (x < (h' : Int)) = true := decide_eq_true hx
        by_cases hy : y < h'
        · have dy : decide (y < (h' : Int)) = true := decide_eq_true hy
          have HR : Hid (solvB p h' own other = true) := by unfold Hid; rw [HS.out]; exact decide_eq_true ⟨hc, hx, hy⟩
          clear CC1 hc HS
          go_enter Tryz.func38, Tryz.ntmps38
          go_wp2_with (first | (go_at_call 75; refine (more_first CO.out).mono ?_; rintro e w' ⟨rfl, t, rfl⟩) | (go_at_call 60; refine (more_call (CN.out _)).mono ?_; rintro e w' ⟨rfl, t3, rfl⟩))
          first | refine wp_region_more2 (by kernel_rfl) (by kernel_rfl) ?_ | refine wp_region_more (by kernel_rfl) (by kernel_rfl) ?_
          repeat (first | go_big_quiet_step ((first | (go_at_call 76; exact more_call (CC.out _)) | (go_at_call_of 77 A1; exact more_same (CH1.out _)) | (go_at_call_of 77 A2; exact more_same (CH2.out _)))) | quiet_step ((first | (go_at_call 76; exact more_call (CC.out _)) | (go_at_call_of 77 A1; exact more_same (CH1.out _)) | (go_at_call_of 77 A2; exact more_same (CH2.out _)))))
          refine wpQuiet_nil ?_
          intro _ hw'
          obtain ⟨t2, hw''⟩ := hw'
          subst hw''
          go_wp2_with (fail)
          go_ret
          exact ⟨by rw [HR.out]; first | rfl | (simp <;> first | omega | assumption), by repeat (first | exact HB.out | refine Below.trans ?_ (Below.mono (below_more _ _) (by first | exact HBZ.out | exact Nat.le_trans HBZ.out (size_more _ _) | exact Nat.le_trans (Nat.le_trans HBZ.out (size_more _ _)) (size_more _ _))))⟩
        · have dy : decide (y < (h' : Int)) = false := decide_eq_false hy
          have HR : Hid (solvB p h' own other = false) := by unfold Hid; rw [HS.out]; exact decide_eq_false fun h => hy h.2.2
          clear CC1 hc HS
          go_enter Tryz.func38, Tryz.ntmps38
          go_wp2_with (first | (go_at_call 75; refine (more_first CO.out).mono ?_; rintro e w' ⟨rfl, t, rfl⟩) | (go_at_call 60; refine (more_call (CN.out _)).mono ?_; rintro e w' ⟨rfl, t3, rfl⟩))
          first | refine wp_region_more2 (by kernel_rfl) (by kernel_rfl) ?_ | refine wp_region_more (by kernel_rfl) (by kernel_rfl) ?_
          repeat (first | go_big_quiet_step ((first | (go_at_call 76; exact more_call (CC.out _)) | (go_at_call_of 77 A1; exact more_same (CH1.out _)) | (go_at_call_of 77 A2; exact more_same (CH2.out _)))) | quiet_step ((first | (go_at_call 76; exact more_call (CC.out _)) | (go_at_call_of 77 A1; exact more_same (CH1.out _)) | (go_at_call_of 77 A2; exact more_same (CH2.out _)))))
          refine wpQuiet_nil ?_
          intro _ hw'
          obtain ⟨t2, hw''⟩ := hw'
          subst hw''
          go_wp2_with (fail)
          go_ret
          exact ⟨by rw [HR.out]; first | rfl | (simp <;> first | omega | assumption), by repeat (first | exact HB.out | refine Below.trans ?_ (Below.mono (below_more _ _) (by first | exact HBZ.out | exact Nat.le_trans HBZ.out (size_more _ _) | exact Nat.le_trans (Nat.le_trans HBZ.out (size_more _ _)) (size_more _ _))))⟩
      · have dx : decide (x < (h' : Int)) = false := decide_eq_false hx
        have HR : Hid (solvB p h' own other = false) := by unfold Hid; rw [HS.out]; exact decide_eq_false fun h => hx h.2.1
        clear CC1 hc HS
        go_enter Tryz.func38, Tryz.ntmps38
        go_wp2_with (first | (go_at_call 75; refine (more_first CO.out).mono ?_; rintro e w' ⟨rfl, t, rfl⟩) | (go_at_call 60; refine (more_call (CN.out _)).mono ?_; rintro e w' ⟨rfl, t3, rfl⟩))
        first | refine wp_region_more2 (by kernel_rfl) (by kernel_rfl) ?_ | refine wp_region_more (by kernel_rfl) (by kernel_rfl) ?_
        repeat (first | go_big_quiet_step ((first | (go_at_call 76; exact more_call (CC.out _)) | (go_at_call_of 77 A1; exact more_same (CH1.out _)) | (go_at_call_of 77 A2; exact more_same (CH2.out _)))) | quiet_step ((first | (go_at_call 76; exact more_call (CC.out _)) | (go_at_call_of 77 A1; exact more_same (CH1.out _)) | (go_at_call_of 77 A2; exact more_same (CH2.out _)))))
        refine wpQuiet_nil ?_
        intro _ hw'
        obtain ⟨t2, hw''⟩ := hw'
        subst hw''
        go_wp2_with (fail)
        go_ret
        exact ⟨by rw [HR.out]; first | rfl | (simp <;> first | omega | assumption), by repeat (first | exact HB.out | refine Below.trans ?_ (Below.mono (below_more _ _) (by first | exact HBZ.out | exact Nat.le_trans HBZ.out (size_more _ _) | exact Nat.le_trans (Nat.le_trans HBZ.out (size_more _ _)) (size_more _ _))))⟩
set_option maxHeartbeats 1000000 in
theorem l15Solved_any (p c h s : Int) (A1 A2 : Option Addr) (n1 c1 n2 c2 : Nat) (own other : List Int) (w : World) (h1 : SL w A1 n1 own) (h2 : SL w A2 n2 other) (hq1 : ∀ x ∈ own, 0 ≤ x) (hq2 : ∀ x ∈ other, 0 ≤ x) (hm1 : own.sum ≤ 2000000) (hm2 : other.sum ≤ 2000000) (hn1 : n1 ≤ 2000) (hn2 : n2 ≤ 2000)
    (hv : smB p c h s = true) :
    Calls Tryz.prog 33 #[.agg #[.int .i64 p, .int .i64 c, .int .i64 h, .int .i64 s], .agg #[.slice A1 n1 c1, .slice A2 n2 c2]] w fun e w' => e = .returned (.bool (solvB p h own other)) ∧ Below w.heap.size w w' := by
  have HB : Hid (Below w.heap.size w ((w.alloc (.cells #[.int .i64 p, .int .i64 c, .int .i64 h, .int .i64 s] 25)).alloc (.cells #[.slice A1 n1 c1, .slice A2 n2 c2] 40))) := ((Below.refl _ _).alloc (Nat.le_refl _) _).alloc (by simp) _
  have HBZ : Hid (w.heap.size ≤ ((w.alloc (.cells #[.int .i64 p, .int .i64 c, .int .i64 h, .int .i64 s] 25)).alloc (.cells #[.slice A1 n1 c1, .slice A2 n2 c2] 40)).heap.size) := HB.out.size
  have H1 := Lib.hid (h1.below HB.out)
  have H2 := Lib.hid (h2.below HB.out)
  obtain rfl : own.length = n1 := h1.1
  obtain rfl : other.length = n2 := h2.1
  obtain ⟨hvv, hp6, hc3, hs3⟩ := smB_yes hv
  obtain ⟨v1, v2, v3, v4, v5, v6, v7, v8⟩ := isVar_yes hvv
  obtain ⟨c', rfl⟩ : ∃ c' : Nat, c = c' := ⟨c.toNat, by omega⟩
  obtain ⟨h', rfl⟩ : ∃ h' : Nat, h = h' := ⟨h.toNat, by omega⟩
  have hw := wys_small (h := h') (c := c') (by omega) (by omega)
  have hwc : wysC h' c' = wys h' c' := wysC_ok (by omega)
  have CO := Lib.hid (l02Over_any A1 A2 own.length c1 other.length c2 own other _ H1.out H2.out hq1 hq2 hm1 hm2 (by omega) (by omega))
  have CC0 := fun (hz1 : own.sum ≠ 0) (hz2 : other.sum ≠ 0) t => l02Contact_any p c' h' s A1 A2 own.length c1 other.length c2 own other (more _ t) (H1.out.more t) (H2.out.more t) hq1 hq2 hm1 hm2 hn1 hn2 hz1 hz2 (by omega) (by omega)
  have CH1 := Lib.hid fun t => l02Last_any A1 own.length c1 own (more _ t) (H1.out.more t) hn1
  have CH2 := Lib.hid fun t => l02Last_any A2 other.length c2 other (more _ t) (H2.out.more t) hn2
  have CN0 := fun (W : World) => sBearoffCount_any p s c' h' W hvv
  rw [hwc] at CN0
  have CN := Lib.hid CN0
  have hN0 : (0 : Int) ≤ (wys h' c' : Int) := by omega
  have hN5 : (wys h' c' : Int) ≤ 500 := by omega
  have hI : inB (wys h' c' : Int) 0 500 = true := inB_yes ⟨hN0, hN5⟩
  have CI0 := fun (W : World) => l01In_any (wys h' c' : Int) 0 500 W
  rw [hI] at CI0
  have CI := Lib.hid CI0
  have x1 := topI_bd own own.length
  have y1 := topI_bd other other.length
  have HS0 : Hid (solvB p h' own other = decide (own.sum = 0 ∨ other.sum = 0 ∨ (¬ p ≤ topI own own.length + topI other other.length ∧ topI own own.length < h' ∧ topI other other.length < h'))) := rfl
  clear h1 h2 hq1 hq2 hm1 hm2 hwc CN0 CI0 hI hw hv hvv
  generalize (wys h' c' : Int) = N at *
  by_cases hov : own.sum = 0 ∨ other.sum = 0
  · have HR : Hid (solvB p h' own other = true) := by unfold Hid; rw [HS0.out]; exact decide_eq_true (hov.elim .inl fun h => .inr (.inl h))
    rw [decide_eq_true hov] at CO
    clear CC0 hov HS0
    go_enter Tryz.func33, Tryz.ntmps33
    go_wp2_with (go_at_call 69; refine (more_first CO.out).mono ?_; rintro e w' ⟨rfl, t, rfl⟩)
    go_ret
    exact ⟨by rw [HR.out]; first | rfl | (simp <;> first | omega | assumption), by repeat (first | exact HB.out | refine Below.trans ?_ (Below.mono (below_more _ _) (by first | exact HBZ.out | exact Nat.le_trans HBZ.out (size_more _ _) | exact Nat.le_trans (Nat.le_trans HBZ.out (size_more _ _)) (size_more _ _))))⟩
  · have CC1 := CC0 (fun h => hov (.inl h)) (fun h => hov (.inr h))
    have HS : Hid (solvB p h' own other = decide (¬ p ≤ topI own own.length + topI other other.length ∧ topI own own.length < h' ∧ topI other other.length < h')) := by
      unfold Hid
      rw [HS0.out]
      refine decide_eq_decide.2 ⟨fun h => ?_, fun h => .inr (.inr h)⟩
      rcases h with h | h | h
      · exact absurd (.inl h) hov
      · exact absurd (.inr h) hov
      · exact h
    rw [decide_eq_false hov] at CO
    clear CC0 hov HS0
    generalize topI own own.length = x at *
    generalize topI other other.length = y at *
    by_cases hc : p ≤ x + y
    · have HR : Hid (solvB p h' own other = false) := by unfold Hid; rw [HS.out]; exact decide_eq_false fun h => h.1 hc
      rw [decide_eq_true hc] at CC1
      have CC := Lib.hid CC1
      clear CC1 hc HS
      go_enter Tryz.func33, Tryz.ntmps33
      go_wp2_with (first | (go_at_call 69; refine (more_first CO.out).mono ?_; rintro e w' ⟨rfl, t, rfl⟩) | fail)
      first | refine wp_region_more2 (by kernel_rfl) (by kernel_rfl) ?_ | refine wp_region_more (by kernel_rfl) (by kernel_rfl) ?_
      repeat (first | go_big_quiet_step ((first | (go_at_call 70; exact more_call (CC.out _)) | (go_at_call_of 71 A1; exact more_same (CH1.out _)) | (go_at_call_of 71 A2; exact more_same (CH2.out _)) | (go_at_call 50; exact more_call (CN.out _)) | (go_at_call 49; exact more_same (CI.out _)))) | quiet_step ((first | (go_at_call 70; exact more_call (CC.out _)) | (go_at_call_of 71 A1; exact more_same (CH1.out _)) | (go_at_call_of 71 A2; exact more_same (CH2.out _)) | (go_at_call 50; exact more_call (CN.out _)) | (go_at_call 49; exact more_same (CI.out _)))))
      refine wpQuiet_nil ?_
      intro _ hw'
      obtain ⟨t2, hw''⟩ := hw'
      subst hw''
      go_wp2_with (fail)
      go_ret
      exact ⟨by rw [HR.out]; first | rfl | (simp <;> first | omega | assumption), by repeat (first | exact HB.out | refine Below.trans ?_ (Below.mono (below_more _ _) (by first | exact HBZ.out | exact Nat.le_trans HBZ.out (size_more _ _) | exact Nat.le_trans (Nat.le_trans HBZ.out (size_more _ _)) (size_more _ _))))⟩
    · rw [decide_eq_false hc] at CC1
      have CC := Lib.hid CC1
      by_cases hx : x < h'
      · have dx : decide (x < (h' : Int)) = true := decide_eq_true hx
        by_cases hy : y < h'
        · have dy : decide (y < (h' : Int)) = true := decide_eq_true hy
          have HR : Hid (solvB p h' own other = true) := by unfold Hid; rw [HS.out]; exact decide_eq_true ⟨hc, hx, hy⟩
          clear CC1 hc HS
          go_enter Tryz.func33, Tryz.ntmps33
          go_wp2_with (first | (go_at_call 69; refine (more_first CO.out).mono ?_; rintro e w' ⟨rfl, t, rfl⟩) | fail)
          first | refine wp_region_more2 (by kernel_rfl) (by kernel_rfl) ?_ | refine wp_region_more (by kernel_rfl) (by kernel_rfl) ?_
          repeat (first | go_big_quiet_step ((first | (go_at_call 70; exact more_call (CC.out _)) | (go_at_call_of 71 A1; exact more_same (CH1.out _)) | (go_at_call_of 71 A2; exact more_same (CH2.out _)) | (go_at_call 50; exact more_call (CN.out _)) | (go_at_call 49; exact more_same (CI.out _)))) | quiet_step ((first | (go_at_call 70; exact more_call (CC.out _)) | (go_at_call_of 71 A1; exact more_same (CH1.out _)) | (go_at_call_of 71 A2; exact more_same (CH2.out _)) | (go_at_call 50; exact more_call (CN.out _)) | (go_at_call 49; exact more_same (CI.out _)))))
          refine wpQuiet_nil ?_
          intro _ hw'
          obtain ⟨t2, hw''⟩ := hw'
          subst hw''
          go_wp2_with (fail)
          go_ret
          exact ⟨by rw [HR.out]; first | rfl | (simp <;> first | omega | assumption), by repeat (first | exact HB.out | refine Below.trans ?_ (Below.mono (below_more _ _) (by first | exact HBZ.out | exact Nat.le_trans HBZ.out (size_more _ _) | exact Nat.le_trans (Nat.le_trans HBZ.out (size_more _ _)) (size_more _ _))))⟩
        · have dy : decide (y < (h' : Int)) = false := decide_eq_false hy
          have HR : Hid (solvB p h' own other = false) := by unfold Hid; rw [HS.out]; exact decide_eq_false fun h => hy h.2.2
          clear CC1 hc HS
          go_enter Tryz.func33, Tryz.ntmps33
          go_wp2_with (first | (go_at_call 69; refine (more_first CO.out).mono ?_; rintro e w' ⟨rfl, t, rfl⟩) | fail)
          first | refine wp_region_more2 (by kernel_rfl) (by kernel_rfl) ?_ | refine wp_region_more (by kernel_rfl) (by kernel_rfl) ?_
          repeat (first | go_big_quiet_step ((first | (go_at_call 70; exact more_call (CC.out _)) | (go_at_call_of 71 A1; exact more_same (CH1.out _)) | (go_at_call_of 71 A2; exact more_same (CH2.out _)) | (go_at_call 50; exact more_call (CN.out _)) | (go_at_call 49; exact more_same (CI.out _)))) | quiet_step ((first | (go_at_call 70; exact more_call (CC.out _)) | (go_at_call_of 71 A1; exact more_same (CH1.out _)) | (go_at_call_of 71 A2; exact more_same (CH2.out _)) | (go_at_call 50; exact more_call (CN.out _)) | (go_at_call 49; exact more_same (CI.out _)))))
          refine wpQuiet_nil ?_
          intro _ hw'
          obtain ⟨t2, hw''⟩ := hw'
          subst hw''
          go_wp2_with (fail)
          go_ret
          exact ⟨by rw [HR.out]; first | rfl | (simp <;> first | omega | assumption), by repeat (first | exact HB.out | refine Below.trans ?_ (Below.mono (below_more _ _) (by first | exact HBZ.out | exact Nat.le_trans HBZ.out (size_more _ _) | exact Nat.le_trans (Nat.le_trans HBZ.out (size_more _ _)) (size_more _ _))))⟩
      · have dx : decide (x < (h' : Int)) = false := decide_eq_false hx
        have HR : Hid (solvB p h' own other = false) := by unfold Hid; rw [HS.out]; exact decide_eq_false fun h => hx h.2.1
        clear CC1 hc HS
        go_enter Tryz.func33, Tryz.ntmps33
        go_wp2_with (first | (go_at_call 69; refine (more_first CO.out).mono ?_; rintro e w' ⟨rfl, t, rfl⟩) | fail)
        first | refine wp_region_more2 (by kernel_rfl) (by kernel_rfl) ?_ | refine wp_region_more (by kernel_rfl) (by kernel_rfl) ?_
        repeat (first | go_big_quiet_step ((first | (go_at_call 70; exact more_call (CC.out _)) | (go_at_call_of 71 A1; exact more_same (CH1.out _)) | (go_at_call_of 71 A2; exact more_same (CH2.out _)) | (go_at_call 50; exact more_call (CN.out _)) | (go_at_call 49; exact more_same (CI.out _)))) | quiet_step ((first | (go_at_call 70; exact more_call (CC.out _)) | (go_at_call_of 71 A1; exact more_same (CH1.out _)) | (go_at_call_of 71 A2; exact more_same (CH2.out _)) | (go_at_call 50; exact more_call (CN.out _)) | (go_at_call 49; exact more_same (CI.out _)))))
        refine wpQuiet_nil ?_
        intro _ hw'
        obtain ⟨t2, hw''⟩ := hw'
        subst hw''
        go_wp2_with (fail)
        go_ret
        exact ⟨by rw [HR.out]; first | rfl | (simp <;> first | omega | assumption), by repeat (first | exact HB.out | refine Below.trans ?_ (Below.mono (below_more _ _) (by first | exact HBZ.out | exact Nat.le_trans HBZ.out (size_more _ _) | exact Nat.le_trans (Nat.le_trans HBZ.out (size_more _ _)) (size_more _ _))))⟩
end Go.Proofs.YtchaenamdpikpaaGreat

/- Contracts of what is a valid exact number, the program's and the reference's. There are no conditions. -/
import Derived.Test.YtlbkfhdnhalpbaaGreatN2
namespace Go.Proofs.YtlbkfhdnhalpbaaGreat
set_option linter.unusedVariables false
set_option linter.unusedSimpArgs false
open Go.RowKit Ps Ra Ex

theorem sq_pos {s : Nat} (h1 : 1 ≤ s) (h6 : s ≤ 6) : 1 ≤ sq s := (sq_bd h1 h6).1
theorem absolute_any (n : Int) (w : World) (h1 : -9000000000000000000 ≤ n) (h2 : n ≤ 9000000000000000000) :
    Calls Tryz.prog 177 #[.int .i64 n] w fun e w' => e = .returned (.int .i64 (n.natAbs : Int)) ∧ w = w' := by
  by_cases h : n < 0
  · have HF : Hid ((n.natAbs : Int) = -n) := by unfold Hid; omega
    go_enter Tryz.func177, Tryz.ntmps177
    go_wp2
    go_ret
    exact ⟨by rw [HF.out]; rfl, rfl⟩
  · have HF : Hid ((n.natAbs : Int) = n) := by unfold Hid; omega
    go_enter Tryz.func177, Tryz.ntmps177
    go_wp2
    go_ret
    exact ⟨by rw [HF.out]; rfl, rfl⟩


set_option maxRecDepth 10000 in
theorem isExact_any (p c h n : Int) (s d : Nat) (w : World) (hs1 : 1 ≤ s) (hs6 : s ≤ 6) (hd : d ≤ 1000) :
    Calls Tryz.prog 163 #[.agg #[.int .i64 p, .int .i64 c, .int .i64 h, .int .i64 s], .agg #[.int .i64 n, .int .i64 d]] w fun e w' => e = .returned (.bool (valB (sq s) n d)) ∧ Below w.heap.size w w' := by
  have HB : Hid (Below w.heap.size w ((w.alloc (.cells #[.int .i64 p, .int .i64 c, .int .i64 h, .int .i64 s] 29)).alloc (.cells #[.int .i64 n, .int .i64 d] 26))) := ((Below.refl _ _).alloc (Nat.le_refl _) _).alloc (by simp) _
  obtain ⟨hq1, hq36, hq4⟩ := sq_bd hs1 hs6
  have CB := Lib.hid fun (W : World) => baseOf_any p c h s W hs6
  have CB' := Lib.hid fun (W : World) => l09Base_any p c h s W hs6
  have CS := Lib.hid fun (W : World) => scaleOf_any p c h s d W hs1 hs6 hd
  have CS' := Lib.hid fun (W : World) => l09Scale_any p c h s d W hs1 hs6 hd
  by_cases hn : -1000000000000000000 ≤ n ∧ n ≤ 1000000000000000000
  · have e1 := inB_yes hn
    by_cases hd0 : d = 0
    · have HF : Hid (valB (sq s) n d = true) := by subst hd0; exact valB_zero (by show -(1000000000000000000 : Int) ≤ n; omega) hn.2
      have b0 : ((d : Int) == 0) = true := by simp [hd0]
      clear hd0 hq4
      go_enter Tryz.func163, Tryz.ntmps163
      go_wp2_with (first | (go_at_call 166; refine (within_any _ _ _ _).mono ?_; rintro e w' ⟨rfl, rfl⟩) | (go_at_call 175; refine (more_first (CB.out _)).mono ?_; rintro e w' ⟨rfl, t, rfl⟩) | (go_at_call 184; first | (refine (more_call (CS.out _)).mono ?_; rintro e w' ⟨rfl, t, rfl⟩) | (refine (more_first (CS.out _)).mono ?_; rintro e w' ⟨rfl, t, rfl⟩)))
      go_ret
      refine ⟨by rw [HF.out]; rfl, ?_⟩
      first | exact HB.out | exact blw HB.out (Nat.le_refl _) | exact blw (blw HB.out (Nat.le_refl _)) (Nat.le_refl _) | exact blw (blw (blw HB.out (Nat.le_refl _)) (Nat.le_refl _)) (Nat.le_refl _)
    · have b0 : ((d : Int) == 0) = false := by simp [hd0]
      have hd1 : 1 ≤ (d : Int) := by omega
      by_cases hone : sq s = 1
      · have HF : Hid (valB (sq s) n d = false) := by rw [hone]; exact valB_one hd0
        have b1 : (sq s == 1) = true := by simp [hone]
        have b2 : decide (1 < sq s) = false := by simp [hone]
        have HS : Hid (scl (sq s) d = 1 ∧ sclB (sq s) d = true) := by
          have := scl_ok (B := sq s) (d := d) (by rw [hone, pw_one]; decide)
          rw [hone, pw_one] at this; rw [hone]; exact this
        have eS := HS.out.2
        clear hone hd0 hq4
        go_enter Tryz.func163, Tryz.ntmps163
        go_wp2_with (first | (go_at_call 166; refine (within_any _ _ _ _).mono ?_; rintro e w' ⟨rfl, rfl⟩) | (go_at_call 175; refine (more_first (CB.out _)).mono ?_; rintro e w' ⟨rfl, t, rfl⟩) | (go_at_call 184; first | (refine (more_call (CS.out _)).mono ?_; rintro e w' ⟨rfl, t, rfl⟩) | (refine (more_first (CS.out _)).mono ?_; rintro e w' ⟨rfl, t, rfl⟩)))
        go_ret
        refine ⟨by rw [HF.out]; rfl, ?_⟩
        first | exact HB.out | exact blw HB.out (Nat.le_refl _) | exact blw (blw HB.out (Nat.le_refl _)) (Nat.le_refl _) | exact blw (blw (blw HB.out (Nat.le_refl _)) (Nat.le_refl _)) (Nat.le_refl _)
      · have b1 : (sq s == 1) = false := by simp [hone]
        have b2 : 1 < sq s := by omega
        have b2' : decide (1 < sq s) = true := by simp; omega
        by_cases hbig : pw (sq s) d ≤ 1000000000000000
        · have eS := (scl_ok hbig).2
          have h60 : ¬ 60 < (d : Int) := by
            intro h60
            have := pw_big (B := sq s) (by omega) (d := d) (by omega)
            have e : maxScale = 1000000000000000 := rfl
            omega
          have hdv : ∀ P : Prop, (sq s ∣ n → P) → (¬ sq s ∣ n → P) → P := fun P h1 h2 => (Decidable.em (sq s ∣ n)).elim h1 h2
          have hw : IntKind.i64.wrap (n.tmod (sq s)) = n.tmod (sq s) := IntWalk.i64_in _ (by
            have h1 := Int.tmod_lt_of_pos n (show 0 < sq s by omega)
            have h2 := Int.lt_tmod_of_pos n (show 0 < sq s by omega)
            omega)
          apply hdv
          · intro hdiv
            have HF : Hid (valB (sq s) n d = false) := valB_dvd hd0 hdiv
            have b3 : (n.tmod (sq s) != 0) = false := by simp [tmod_zero.2 hdiv]
            clear hdv hdiv hone hd0 hq4
            go_enter Tryz.func163, Tryz.ntmps163
            go_wp2_with (first | (go_at_call 166; refine (within_any _ _ _ _).mono ?_; rintro e w' ⟨rfl, rfl⟩) | (go_at_call 175; refine (more_first (CB.out _)).mono ?_; rintro e w' ⟨rfl, t, rfl⟩) | (go_at_call 184; first | (refine (more_call (CS.out _)).mono ?_; rintro e w' ⟨rfl, t, rfl⟩) | (refine (more_first (CS.out _)).mono ?_; rintro e w' ⟨rfl, t, rfl⟩)))
            first | refine wp_region_more2 (by kernel_rfl) (by kernel_rfl) ?_ | refine wp_region_more (by kernel_rfl) (by kernel_rfl) ?_
            repeat (first | go_big_quiet_step ((go_at_call 175; exact more_call (CB.out _))) | quiet_step ((go_at_call 175; exact more_call (CB.out _))))
            refine wpQuiet_nil ?_
            intro _ hw'
            obtain ⟨tq, hw''⟩ := hw'
            subst hw''
            go_wp2
            go_ret
            refine ⟨by rw [HF.out]; rfl, ?_⟩
            first | exact HB.out | exact blw HB.out (Nat.le_refl _) | exact blw (blw HB.out (Nat.le_refl _)) (Nat.le_refl _) | exact blw (blw (blw HB.out (Nat.le_refl _)) (Nat.le_refl _)) (Nat.le_refl _)
          · intro hdiv
            have HF : Hid (valB (sq s) n d = true) := valB_mk (by show -(1000000000000000000 : Int) ≤ n; omega) hn.2 hbig hdiv hone
            have b3 : (n.tmod (sq s) != 0) = true := by simp [tmod_zero, hdiv]
            clear hdv hdiv hone hd0 hq4
            go_enter Tryz.func163, Tryz.ntmps163
            go_wp2_with (first | (go_at_call 166; refine (within_any _ _ _ _).mono ?_; rintro e w' ⟨rfl, rfl⟩) | (go_at_call 175; refine (more_first (CB.out _)).mono ?_; rintro e w' ⟨rfl, t, rfl⟩) | (go_at_call 184; first | (refine (more_call (CS.out _)).mono ?_; rintro e w' ⟨rfl, t, rfl⟩) | (refine (more_first (CS.out _)).mono ?_; rintro e w' ⟨rfl, t, rfl⟩)))
            first | refine wp_region_more2 (by kernel_rfl) (by kernel_rfl) ?_ | refine wp_region_more (by kernel_rfl) (by kernel_rfl) ?_
            repeat (first | go_big_quiet_step ((go_at_call 175; exact more_call (CB.out _))) | quiet_step ((go_at_call 175; exact more_call (CB.out _))))
            refine wpQuiet_nil ?_
            intro _ hw'
            obtain ⟨tq, hw''⟩ := hw'
            subst hw''
            go_wp2
            go_ret
            refine ⟨by rw [HF.out]; rfl, ?_⟩
            first | exact HB.out | exact blw HB.out (Nat.le_refl _) | exact blw (blw HB.out (Nat.le_refl _)) (Nat.le_refl _) | exact blw (blw (blw HB.out (Nat.le_refl _)) (Nat.le_refl _)) (Nat.le_refl _)
        · have HF : Hid (valB (sq s) n d = false) := valB_deep (by show (1000000000000000 : Int) < _; omega)
          have eS := (scl_no (B := sq s) (d := d) (by omega)).2
          clear hone hd0 hq4
          by_cases h60 : 60 < (d : Int)
          ·
            go_enter Tryz.func163, Tryz.ntmps163
            go_wp2_with (first | (go_at_call 166; refine (within_any _ _ _ _).mono ?_; rintro e w' ⟨rfl, rfl⟩) | (go_at_call 175; refine (more_first (CB.out _)).mono ?_; rintro e w' ⟨rfl, t, rfl⟩) | (go_at_call 184; first | (refine (more_call (CS.out _)).mono ?_; rintro e w' ⟨rfl, t, rfl⟩) | (refine (more_first (CS.out _)).mono ?_; rintro e w' ⟨rfl, t, rfl⟩)))
            go_ret
            refine ⟨by rw [HF.out]; rfl, ?_⟩
            first | exact HB.out | exact blw HB.out (Nat.le_refl _) | exact blw (blw HB.out (Nat.le_refl _)) (Nat.le_refl _) | exact blw (blw (blw HB.out (Nat.le_refl _)) (Nat.le_refl _)) (Nat.le_refl _)
          ·
            go_enter Tryz.func163, Tryz.ntmps163
            go_wp2_with (first | (go_at_call 166; refine (within_any _ _ _ _).mono ?_; rintro e w' ⟨rfl, rfl⟩) | (go_at_call 175; refine (more_first (CB.out _)).mono ?_; rintro e w' ⟨rfl, t, rfl⟩) | (go_at_call 184; first | (refine (more_call (CS.out _)).mono ?_; rintro e w' ⟨rfl, t, rfl⟩) | (refine (more_first (CS.out _)).mono ?_; rintro e w' ⟨rfl, t, rfl⟩)))
            first | refine wp_region_more2 (by kernel_rfl) (by kernel_rfl) ?_ | refine wp_region_more (by kernel_rfl) (by kernel_rfl) ?_
            repeat (first | go_big_quiet_step ((go_at_call 175; exact more_call (CB.out _))) | quiet_step ((go_at_call 175; exact more_call (CB.out _))))
            refine wpQuiet_nil ?_
            intro _ hw'
            obtain ⟨tq, hw''⟩ := hw'
            subst hw''
            go_wp2
            go_ret
            refine ⟨by rw [HF.out]; rfl, ?_⟩
            first | exact HB.out | exact blw HB.out (Nat.le_refl _) | exact blw (blw HB.out (Nat.le_refl _)) (Nat.le_refl _) | exact blw (blw (blw HB.out (Nat.le_refl _)) (Nat.le_refl _)) (Nat.le_refl _)
  · have HF : Hid (valB (sq s) n d = false) := valB_far (by show n < -(1000000000000000000 : Int) ∨ (1000000000000000000 : Int) < n; omega)
    have e1 := inB_no hn
    clear hq4
    go_enter Tryz.func163, Tryz.ntmps163
    go_wp2_with (first | (go_at_call 166; refine (within_any _ _ _ _).mono ?_; rintro e w' ⟨rfl, rfl⟩) | (go_at_call 175; refine (more_first (CB.out _)).mono ?_; rintro e w' ⟨rfl, t, rfl⟩) | (go_at_call 184; first | (refine (more_call (CS.out _)).mono ?_; rintro e w' ⟨rfl, t, rfl⟩) | (refine (more_first (CS.out _)).mono ?_; rintro e w' ⟨rfl, t, rfl⟩)))
    go_ret
    refine ⟨by rw [HF.out]; rfl, ?_⟩
    first | exact HB.out | exact blw HB.out (Nat.le_refl _) | exact blw (blw HB.out (Nat.le_refl _)) (Nat.le_refl _) | exact blw (blw (blw HB.out (Nat.le_refl _)) (Nat.le_refl _)) (Nat.le_refl _)
set_option maxRecDepth 10000 in
theorem l09Valid_any (p c h n : Int) (s d : Nat) (w : World) (hs1 : 1 ≤ s) (hs6 : s ≤ 6) (hd : d ≤ 1000) :
    Calls Tryz.prog 115 #[.agg #[.int .i64 p, .int .i64 c, .int .i64 h, .int .i64 s], .agg #[.int .i64 n, .int .i64 d]] w fun e w' => e = .returned (.bool (valB (sq s) n d)) ∧ Below w.heap.size w w' := by
  have HB : Hid (Below w.heap.size w ((w.alloc (.cells #[.int .i64 p, .int .i64 c, .int .i64 h, .int .i64 s] 29)).alloc (.cells #[.int .i64 n, .int .i64 d] 26))) := ((Below.refl _ _).alloc (Nat.le_refl _) _).alloc (by simp) _
  obtain ⟨hq1, hq36, hq4⟩ := sq_bd hs1 hs6
  have CB := Lib.hid fun (W : World) => baseOf_any p c h s W hs6
  have CB' := Lib.hid fun (W : World) => l09Base_any p c h s W hs6
  have CS := Lib.hid fun (W : World) => scaleOf_any p c h s d W hs1 hs6 hd
  have CS' := Lib.hid fun (W : World) => l09Scale_any p c h s d W hs1 hs6 hd
  by_cases hn : -1000000000000000000 ≤ n ∧ n ≤ 1000000000000000000
  · have e1 := inB_yes hn
    by_cases hd0 : d = 0
    · have HF : Hid (valB (sq s) n d = true) := by subst hd0; exact valB_zero (by show -(1000000000000000000 : Int) ≤ n; omega) hn.2
      have b0 : ((d : Int) == 0) = true := by simp [hd0]
      clear hd0 hq4
      go_enter Tryz.func115, Tryz.ntmps115
      go_wp2_with (first | (go_at_call 90; refine (l01In_any _ _ _ _).mono ?_; rintro e w' ⟨rfl, rfl⟩) | (go_at_call 158; refine (more_first (CS'.out _)).mono ?_; rintro e w' ⟨rfl, t, rfl⟩))
      go_ret
      refine ⟨by rw [HF.out]; rfl, ?_⟩
      first | exact HB.out | exact blw HB.out (Nat.le_refl _) | exact blw (blw HB.out (Nat.le_refl _)) (Nat.le_refl _) | exact blw (blw (blw HB.out (Nat.le_refl _)) (Nat.le_refl _)) (Nat.le_refl _)
    · have b0 : ((d : Int) == 0) = false := by simp [hd0]
      have hd1 : 1 ≤ (d : Int) := by omega
      by_cases hone : sq s = 1
      · have HF : Hid (valB (sq s) n d = false) := by rw [hone]; exact valB_one hd0
        have b1 : (sq s == 1) = true := by simp [hone]
        have b2 : decide (1 < sq s) = false := by simp [hone]
        have HS : Hid (scl (sq s) d = 1 ∧ sclB (sq s) d = true) := by
          have := scl_ok (B := sq s) (d := d) (by rw [hone, pw_one]; decide)
          rw [hone, pw_one] at this; rw [hone]; exact this
        have eS := HS.out.2
        clear hone hd0 hq4
        go_enter Tryz.func115, Tryz.ntmps115
        go_wp2_with (first | (go_at_call 90; refine (l01In_any _ _ _ _).mono ?_; rintro e w' ⟨rfl, rfl⟩) | (go_at_call 158; refine (more_first (CS'.out _)).mono ?_; rintro e w' ⟨rfl, t, rfl⟩))
        first | refine wp_region_more2 (by kernel_rfl) (by kernel_rfl) ?_ | refine wp_region_more (by kernel_rfl) (by kernel_rfl) ?_
        repeat (first | go_big_quiet_step ((go_at_call 173; exact more_call (CB'.out _))) | quiet_step ((go_at_call 173; exact more_call (CB'.out _))))
        refine wpQuiet_nil ?_
        intro _ hw'
        obtain ⟨tq, hw''⟩ := hw'
        subst hw''
        go_wp2
        go_ret
        refine ⟨by rw [HF.out]; rfl, ?_⟩
        first | exact HB.out | exact blw HB.out (Nat.le_refl _) | exact blw (blw HB.out (Nat.le_refl _)) (Nat.le_refl _) | exact blw (blw (blw HB.out (Nat.le_refl _)) (Nat.le_refl _)) (Nat.le_refl _)
      · have b1 : (sq s == 1) = false := by simp [hone]
        have b2 : 1 < sq s := by omega
        have b2' : decide (1 < sq s) = true := by simp; omega
        by_cases hbig : pw (sq s) d ≤ 1000000000000000
        · have eS := (scl_ok hbig).2
          have h60 : ¬ 60 < (d : Int) := by
            intro h60
            have := pw_big (B := sq s) (by omega) (d := d) (by omega)
            have e : maxScale = 1000000000000000 := rfl
            omega
          have hdv : ∀ P : Prop, (sq s ∣ n → P) → (¬ sq s ∣ n → P) → P := fun P h1 h2 => (Decidable.em (sq s ∣ n)).elim h1 h2
          have hw : IntKind.i64.wrap (n.tmod (sq s)) = n.tmod (sq s) := IntWalk.i64_in _ (by
            have h1 := Int.tmod_lt_of_pos n (show 0 < sq s by omega)
            have h2 := Int.lt_tmod_of_pos n (show 0 < sq s by omega)
            omega)
          apply hdv
          · intro hdiv
            have HF : Hid (valB (sq s) n d = false) := valB_dvd hd0 hdiv
            have b3 : (n.tmod (sq s) != 0) = false := by simp [tmod_zero.2 hdiv]
            clear hdv hdiv hone hd0 hq4
            go_enter Tryz.func115, Tryz.ntmps115
            go_wp2_with (first | (go_at_call 90; refine (l01In_any _ _ _ _).mono ?_; rintro e w' ⟨rfl, rfl⟩) | (go_at_call 158; refine (more_first (CS'.out _)).mono ?_; rintro e w' ⟨rfl, t, rfl⟩))
            first | refine wp_region_more2 (by kernel_rfl) (by kernel_rfl) ?_ | refine wp_region_more (by kernel_rfl) (by kernel_rfl) ?_
            repeat (first | go_big_quiet_step ((go_at_call 173; exact more_call (CB'.out _))) | quiet_step ((go_at_call 173; exact more_call (CB'.out _))))
            refine wpQuiet_nil ?_
            intro _ hw'
            obtain ⟨tq, hw''⟩ := hw'
            subst hw''
            go_wp2
            go_ret
            refine ⟨by rw [HF.out]; rfl, ?_⟩
            first | exact HB.out | exact blw HB.out (Nat.le_refl _) | exact blw (blw HB.out (Nat.le_refl _)) (Nat.le_refl _) | exact blw (blw (blw HB.out (Nat.le_refl _)) (Nat.le_refl _)) (Nat.le_refl _)
          · intro hdiv
            have HF : Hid (valB (sq s) n d = true) := valB_mk (by show -(1000000000000000000 : Int) ≤ n; omega) hn.2 hbig hdiv hone
            have b3 : (n.tmod (sq s) != 0) = true := by simp [tmod_zero, hdiv]
            clear hdv hdiv hone hd0 hq4
            go_enter Tryz.func115, Tryz.ntmps115
            go_wp2_with (first | (go_at_call 90; refine (l01In_any _ _ _ _).mono ?_; rintro e w' ⟨rfl, rfl⟩) | (go_at_call 158; refine (more_first (CS'.out _)).mono ?_; rintro e w' ⟨rfl, t, rfl⟩))
            first | refine wp_region_more2 (by kernel_rfl) (by kernel_rfl) ?_ | refine wp_region_more (by kernel_rfl) (by kernel_rfl) ?_
            repeat (first | go_big_quiet_step ((go_at_call 173; exact more_call (CB'.out _))) | quiet_step ((go_at_call 173; exact more_call (CB'.out _))))
            refine wpQuiet_nil ?_
            intro _ hw'
            obtain ⟨tq, hw''⟩ := hw'
            subst hw''
            go_wp2
            go_ret
            refine ⟨by rw [HF.out]; rfl, ?_⟩
            first | exact HB.out | exact blw HB.out (Nat.le_refl _) | exact blw (blw HB.out (Nat.le_refl _)) (Nat.le_refl _) | exact blw (blw (blw HB.out (Nat.le_refl _)) (Nat.le_refl _)) (Nat.le_refl _)
        · have HF : Hid (valB (sq s) n d = false) := valB_deep (by show (1000000000000000 : Int) < _; omega)
          have eS := (scl_no (B := sq s) (d := d) (by omega)).2
          clear hone hd0 hq4
          by_cases h60 : 60 < (d : Int)
          ·
            go_enter Tryz.func115, Tryz.ntmps115
            go_wp2_with (first | (go_at_call 90; refine (l01In_any _ _ _ _).mono ?_; rintro e w' ⟨rfl, rfl⟩) | (go_at_call 158; refine (more_first (CS'.out _)).mono ?_; rintro e w' ⟨rfl, t, rfl⟩))
            first | refine wp_region_more2 (by kernel_rfl) (by kernel_rfl) ?_ | refine wp_region_more (by kernel_rfl) (by kernel_rfl) ?_
            repeat (first | go_big_quiet_step ((go_at_call 173; exact more_call (CB'.out _))) | quiet_step ((go_at_call 173; exact more_call (CB'.out _))))
            refine wpQuiet_nil ?_
            intro _ hw'
            obtain ⟨tq, hw''⟩ := hw'
            subst hw''
            go_wp2
            go_ret
            refine ⟨by rw [HF.out]; rfl, ?_⟩
            first | exact HB.out | exact blw HB.out (Nat.le_refl _) | exact blw (blw HB.out (Nat.le_refl _)) (Nat.le_refl _) | exact blw (blw (blw HB.out (Nat.le_refl _)) (Nat.le_refl _)) (Nat.le_refl _)
          ·
            go_enter Tryz.func115, Tryz.ntmps115
            go_wp2_with (first | (go_at_call 90; refine (l01In_any _ _ _ _).mono ?_; rintro e w' ⟨rfl, rfl⟩) | (go_at_call 158; refine (more_first (CS'.out _)).mono ?_; rintro e w' ⟨rfl, t, rfl⟩))
            first | refine wp_region_more2 (by kernel_rfl) (by kernel_rfl) ?_ | refine wp_region_more (by kernel_rfl) (by kernel_rfl) ?_
            repeat (first | go_big_quiet_step ((go_at_call 173; exact more_call (CB'.out _))) | quiet_step ((go_at_call 173; exact more_call (CB'.out _))))
            refine wpQuiet_nil ?_
            intro _ hw'
            obtain ⟨tq, hw''⟩ := hw'
            subst hw''
            go_wp2
            go_ret
            refine ⟨by rw [HF.out]; rfl, ?_⟩
            first | exact HB.out | exact blw HB.out (Nat.le_refl _) | exact blw (blw HB.out (Nat.le_refl _)) (Nat.le_refl _) | exact blw (blw (blw HB.out (Nat.le_refl _)) (Nat.le_refl _)) (Nat.le_refl _)
  · have HF : Hid (valB (sq s) n d = false) := valB_far (by show n < -(1000000000000000000 : Int) ∨ (1000000000000000000 : Int) < n; omega)
    have e1 := inB_no hn
    clear hq4
    go_enter Tryz.func115, Tryz.ntmps115
    go_wp2_with (first | (go_at_call 90; refine (l01In_any _ _ _ _).mono ?_; rintro e w' ⟨rfl, rfl⟩) | (go_at_call 158; refine (more_first (CS'.out _)).mono ?_; rintro e w' ⟨rfl, t, rfl⟩))
    go_ret
    refine ⟨by rw [HF.out]; rfl, ?_⟩
    first | exact HB.out | exact blw HB.out (Nat.le_refl _) | exact blw (blw HB.out (Nat.le_refl _)) (Nat.le_refl _) | exact blw (blw (blw HB.out (Nat.le_refl _)) (Nat.le_refl _)) (Nat.le_refl _)
end Go.Proofs.YtlbkfhdnhalpbaaGreat

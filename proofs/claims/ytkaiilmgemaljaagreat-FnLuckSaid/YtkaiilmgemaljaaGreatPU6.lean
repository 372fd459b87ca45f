/- The statement FnLuck, the law's walk. There are no conditions beyond those that each states. -/
import Derived.Test.YtkaiilmgemaljaaGreatPU4
import Derived.Test.YtkaiilmgemaljaaGreatPU5
import Derived.Test.YtkaiilmgemaljaaGreatPN65
import Derived.Test.YtkaiilmgemaljaaGreatPL6
namespace Go.Proofs.YtkaiilmgemaljaaGreat
set_option linter.unusedVariables false
set_option linter.unusedSimpArgs false
open Go.RowKit Ps Ra Ex

theorem EL.set' {S S' : Nat → Prop} {w : World} {A : Option Addr} {n : Nat} {xs : List E} (h : EL S w A n xs) (hS : ∀ k, S' k → S k ∨ w.heap.size ≤ k) : EL S' w A n xs := by
 refine ⟨h.1, h.2.1, fun hn => ?_⟩
 obtain ⟨b, off, hA, hlt, hs, hc⟩ := h.2.2 hn
 exact ⟨b, off, hA, hlt, fun hb => (hS b hb).elim hs (by omega), hc⟩
theorem RL.set' {S S' : Nat → Prop} {w : World} {A : Option Addr} {n : Nat} {xs : List (Nat × Nat)} (h : RL S w A n xs) (hS : ∀ k, S' k → S k ∨ w.heap.size ≤ k) : RL S' w A n xs := by
 refine ⟨h.1, h.2.1, fun hn => ?_⟩
 obtain ⟨b, off, hA, hlt, hs, hc⟩ := h.2.2 hn
 exact ⟨b, off, hA, hlt, fun hb => (hS b hb).elim hs (by omega), hc⟩
theorem EL.all {S : Nat → Prop} {w : World} {A : Option Addr} {n : Nat} {xs : List E} (h : EL S w A n xs) : EL (fun _ => False) w A n xs := ⟨h.1, h.2.less fun _ h => h.elim⟩
theorem OwnE.readS {S : Nat → Prop} {w : World} {base : Nat} {v : Value} {xs : List E} {n : Nat} (h : OwnE w base v xs) (hn : xs.length = n) (hS : ∀ k, base ≤ k → ¬ S k) : ∃ A c, v = .slice A n c ∧ EL S w A n xs ∧ n ≤ c := by
 subst hn
 obtain ⟨A, c, hv, hs, hc⟩ := row_read (S := S) h (fun k hk => hS k (World.ownsRow.lt h k hk).1) (by omega)
 exact ⟨A, c, hv, ⟨rfl, hs⟩, hc⟩
theorem bel_set' {B : Nat} {w w' : World} (h : Below B w w') {b i : Nat} (hb : B ≤ b) (v : Value) : Below B w (w'.setCell ⟨b, i, none⟩ v) := h.setCell hb v
theorem chanR_code {p c h s : Int} {own other : List Int} {ys : List E} {kk : Int} (H : (ys, kk) = chanR p c h s own other) (h0 : kk = 0) : codeW p c h s own other true = 0 := by
 unfold chanR at H
 split at H
 · assumption
 · injection H with _ h2; rw [← h2]; exact h0
theorem four_frm (W : World) (g : Nat) (v0 v1 v2 v3 : Value) : Frm (fun k => k = g) W ((((W.setCell ⟨g, 0, none⟩ v0).setCell ⟨g, 1, none⟩ v1).setCell ⟨g, 2, none⟩ v2).setCell ⟨g, 3, none⟩ v3) :=
 (((Frm.set W g 0 v0).trans (Frm.set _ g 1 v1)).trans (Frm.set _ g 2 v2)).trans (Frm.set _ g 3 v3)
theorem Cel.four {W : World} {g : Nat} {v0 v1 v2 v3 : Value} (h : Cel W g [v0, v1, v2, v3]) : Cel ((((W.setCell ⟨g, 0, none⟩ v0).setCell ⟨g, 1, none⟩ v1).setCell ⟨g, 2, none⟩ v2).setCell ⟨g, 3, none⟩ v3) g [v0, v1, v2, v3] :=
 (((h.st (i := 0) (v := v0) (by simp)).st (i := 1) (v := v1) (by simp)).st (i := 2) (v := v2) (by simp)).st (i := 3) (v := v3) (by simp)
set_option maxRecDepth 100000 in
set_option maxHeartbeats 8000000 in
theorem luck_law (C : Option Addr) (n c : Nat) (bs : List Int) (w : World) (hC : SBy w C n bs) :
   Calls Tryz.prog 3 #[.slice C n c] w fun e w' => e = .returned (.bool true) ∧ Below w.heap.size w w' := by
 have HC := Lib.hid hC; clear hC
 by_cases hn : 4096 < n
 · have hd : decide (4096 < n) = true := by simp [hn]
   go_enter Tryz.func3, Tryz.ntmps3
   go_wp2_with (fail)
   refine (big_any C n c w).mono ?_
   rintro e w' ⟨rfl, rfl⟩
   rw [hd]
   go_wp2_with (fail)
   go_ret
   exact ⟨rfl, Bel.rfl' _⟩
 have hd : decide (4096 < n) = false := by simp [hn]
 have HD := Lib.hid fun (W : World) (h : SBy W C n bs) => DrawRollChances_any C n c bs W h (by omega)
 obtain ⟨i0, hi, iz0, iz1, iz2⟩ := info_parts Tryz.infoE; have hsm := drawn_small bs; generalize drawn12 bs = R at *; obtain ⟨⟨p, c', h', s⟩, own, other, q⟩ := R
 go_enter Tryz.func3, Tryz.ntmps3
 go_wp2_with (fail)
 refine (big_any C n c w).mono ?_
 rintro e w' ⟨rfl, rfl⟩
 rw [hd]
 go_wp2_with (fail)
 refine (HD.out w HC.out).mono ?_
 rintro e w1 ⟨v1, v2, rfl, h1, h2, hb⟩
 obtain ⟨A1, k1, rfl, s1, m1⟩ := h1.read; obtain ⟨A2, k2, rfl, s2, m2⟩ := h2.read; have S1 := Lib.hid (s1.alloc (.cells #[.int .i64 p, .int .i64 c', .int .i64 h', .int .i64 s] 25)); have S2 := Lib.hid (s2.alloc (.cells #[.int .i64 p, .int .i64 c', .int .i64 h', .int .i64 s] 25)); have HV1 : Hid (Cel (w1.alloc (.cells #[.int .i64 p, .int .i64 c', .int .i64 h', .int .i64 s] 25)) w1.heap.size [.int .i64 p, .int .i64 c', .int .i64 h', .int .i64 s]) := Cel.new w1 #[.int .i64 p, .int .i64 c', .int .i64 h', .int .i64 s] _; have HB1 := Lib.hid (hb.alloc hb.size (.cells #[.int .i64 p, .int .i64 c', .int .i64 h', .int .i64 s] 25)); have hz1 : w.heap.size ≤ w1.heap.size := hb.size; clear h1 h2 hb s1 s2; have c0 := HV1.out.cell 0 _ rfl; have c1 := HV1.out.cell 1 _ rfl; have c2 := HV1.out.cell 2 _ rfl; have c3 := HV1.out.cell 3 _ rfl; have cz := HV1.out.lt
 go_wp2_with (fail)
 generalize w1.alloc (.cells #[.int .i64 p, .int .i64 c', .int .i64 h', .int .i64 s] 25) = V1 at *; generalize w1.heap.size = g1 at *; clear c0 c1 c2 c3 cz
 refine (RollChances_any p c' h' s A1 A2 _ _ k1 k2 own other V1 S1.out S2.out m1 m2).mono ?_
 rintro e w2 ⟨vl, bl, rfl, hbl, ho, hb2⟩
 obtain ⟨r, hr⟩ : ∃ r, r = chanR p c' h' s own other := ⟨_, rfl⟩; obtain ⟨ys, kk⟩ := r; rw [← hr] at ho ⊢; obtain ⟨len, hlen⟩ : ∃ len, ys.length = len := ⟨_, rfl⟩; have hg1 : g1 < V1.heap.size := HV1.out.lt
 obtain ⟨Al, cl, rfl, hel, hcl⟩ := OwnE.readS (S := fun k => k = g1) ho hlen (fun k hk => by show ¬ (_ = _); omega)
 have HL2 := Lib.hid hel; have HR := Lib.hid hr; have HLEN := Lib.hid hlen; have HV2 := Lib.hid (HV1.out.below hb2); have HB2 := Lib.hid (HB1.out.trans (hb2.mono HB1.out.size)); clear hr hb2 S1 S2 HV1 HB1 ho hel hbl hlen m1 m2
 go_wp2_with (fail)
 refine (HD.out w2 (HC.out.below HB2.out)).mono ?_
 rintro e w4 ⟨v1, v2, rfl, h1, h2, hb⟩
 obtain ⟨B1, l1, rfl, s1, m1⟩ := h1.read; obtain ⟨B2, l2, rfl, s2, m2⟩ := h2.read; have HV4 := Lib.hid (HV2.out.below hb); have HL4 := Lib.hid (HL2.out.below hb); have HB4 := Lib.hid (HB2.out.trans (hb.mono HB2.out.size)); have H1 := Lib.hid h1; have H2 := Lib.hid h2; have hg2 : g1 < w2.heap.size := HV2.out.lt; clear h1 h2 s1 s2 hb HV2 HB2 HL2; have c0 := HV4.out.cell 0 _ rfl; have c1 := HV4.out.cell 1 _ rfl; have c2 := HV4.out.cell 2 _ rfl; have c3 := HV4.out.cell 3 _ rfl; have cz := HV4.out.lt; have f0 := HV4.out.froz 0 _ rfl; have f1 := HV4.out.froz 1 _ rfl; have f2 := HV4.out.froz 2 _ rfl; have f3 := HV4.out.froz 3 _ rfl
 go_wp2_with (fail)
 clear c0 c1 c2 c3 cz f0 f1 f2 f3; have HF4 := Lib.hid (four_frm w4 g1 (.int .i64 p) (.int .i64 c') (.int .i64 h') (.int .i64 s)); have HV5 := Lib.hid HV4.out.four; have HB5 := Lib.hid (bel_set' (bel_set' (bel_set' (bel_set' HB4.out hz1 (.int .i64 p) (i := 0)) hz1 (.int .i64 c') (i := 1)) hz1 (.int .i64 h') (i := 2)) hz1 (.int .i64 s) (i := 3))
 have O1 := Lib.hid (HF4.out.own H1.out fun k hk => by have := (H1.out.lt k hk).1; show ¬ (_ = _); omega)
 have O2 := Lib.hid (HF4.out.own H2.out fun k hk => by have := (H2.out.lt k hk).1; show ¬ (_ = _); omega)
 have HL5 := Lib.hid (HL4.out.frm HF4.out); clear HV4 HB4 H1 H2 HL4 HF4; generalize (((w4.setCell ⟨g1, 0, none⟩ (.int .i64 p)).setCell ⟨g1, 1, none⟩ (.int .i64 c')).setCell ⟨g1, 2, none⟩ (.int .i64 h')).setCell ⟨g1, 3, none⟩ (.int .i64 s) = V5 at *
 refine (sRollChances_any p c' h' s B1 B2 _ _ l1 l2 own other V5 (O1.out.sl rfl).1 (O2.out.sl rfl).1 m1 m2).mono ?_
 rintro e w6 ⟨vm, bm, rfl, hbm, ho, hb2⟩
 rw [← HR.out] at ho ⊢; have hg5 : g1 < V5.heap.size := HV5.out.lt
 obtain ⟨Am, cm, rfl, hem, hcm⟩ := OwnE.readS (S := fun k => k = g1) ho HLEN.out (fun k hk => by show ¬ (_ = _); omega)
 have HM6 := Lib.hid hem; have HL6 := Lib.hid (HL5.out.below hb2); have HV6 := Lib.hid (HV5.out.below hb2); have T1 := Lib.hid ((O1.out.sl rfl).1.below hb2); have T2 := Lib.hid ((O2.out.sl rfl).1.below hb2); have HB6 := Lib.hid (HB5.out.trans (hb2.mono HB5.out.size)); clear hb2 O1 O2 HV5 HB5 HL5 ho hem hbm
 have b3 : (kk != kk) = false := by simp
 have b4 : ((len : Int) != (len : Int)) = false := by simp
 by_cases h3 : kk = 0
 · have b5 : (kk != 0) = false := by simp [h3]
   have hlf := luck_facts hsm (chanR_code HR.out h3); obtain ⟨s', ys', ls, x, rfl, hvar, hch, hwin, hyl, hyv, hym, hll, hlv, hlm, hlk⟩ := hlf
   have hys : ys = ys' := by have := HR.out; rw [hch] at this; exact (Prod.mk.inj this).1
   subst hys; rw [HLEN.out] at hyl hll hlk; have HLK := Lib.hid hlk; have HLL := Lib.hid hll; have HLV := Lib.hid hlv; have HLM := Lib.hid hlm; have HYM := Lib.hid hym; have HYV := Lib.hid hyv; have HWIN := Lib.hid hwin; have HYL := Lib.hid hyl
   have hs6 : s' ≤ 6 := by have := (isVar_yes hvar).2.2.2.2.2.2.2; omega
   have hlen21 : len ≤ 21 := by rw [hyl]; exact rolls_le hs6
   clear hsm hlk hll hlv hlm hym hyv hwin hyl hch HR; have c0 := HV6.out.cell 0 _ rfl; have c1 := HV6.out.cell 1 _ rfl; have c2 := HV6.out.cell 2 _ rfl; have c3 := HV6.out.cell 3 _ rfl; have cz := HV6.out.lt
   go_wp2_with (fail)
   clear c0 c1 c2 c3 cz
   refine (sAllRolls_any p c' h' s' w6 hvar).mono ?_
   rintro e w7 ⟨vr, rfl, ho, hb2⟩
   have hg6 : g1 < w6.heap.size := HV6.out.lt
   obtain ⟨Ar, cr, rfl, her, hcr⟩ := ho.read (S := fun k => k = g1) (fun k hk => by show ¬ (_ = _); omega)
   rw [← HYL.out] at her ⊢; have HRr := Lib.hid her; have HM7 := Lib.hid (HM6.out.below hb2); have HL7 := Lib.hid (HL6.out.below hb2); have HV7 := Lib.hid (HV6.out.below hb2); have T17 := Lib.hid (T1.out.below hb2); have T27 := Lib.hid (T2.out.below hb2); have HB7 := Lib.hid (HB6.out.trans (hb2.mono HB6.out.size)); clear hb2 T1 T2 HV6 HB6 HL6 HM6 ho her hcr
   have HO8 : Hid (OwnE (w7.alloc (.cells #[] 35)) w7.heap.size (.slice (some ⟨w7.heap.size, 0, none⟩) 0 0) (ls.take 0)) := by
     have := row_made w7 (base := w7.heap.size) 35 (z := 2) (n := 0) #[] (by simp) (by unfold maxLen; omega) rfl
     show World.ownsRow _ _ _ 2 _ 0 []
     simpa using this
   have hg7 : g1 < w7.heap.size := HV7.out.lt
   obtain ⟨S, hS⟩ : ∃ S : Nat → Prop, S = fun k => k = g1 ∨ w7.heap.size ≤ k := ⟨_, rfl⟩
   have HSS := Lib.hid hS
   have HM8 : Hid (EL S (w7.alloc (.cells #[] 35)) Am len ys) := (HM7.out.set' (S' := S) fun k hk => by rw [hS] at hk; exact hk).below (Bel.alloc _ _)
   have HL8 : Hid (EL S (w7.alloc (.cells #[] 35)) Al len ys) := (HL7.out.set' (S' := S) fun k hk => by rw [hS] at hk; exact hk).below (Bel.alloc _ _)
   have HR8 : Hid (RL S (w7.alloc (.cells #[] 35)) Ar len (rollsN s')) := (HRr.out.set' (S' := S) fun k hk => by rw [hS] at hk; exact hk).below (Bel.alloc _ _)
   have HV8 := Lib.hid (HV7.out.alloc (.cells #[] 35)); have HS8 : Hid (SL (w7.alloc (.cells #[] 35)) B1 own.length own ∧ own.length ≤ l1 ∧ SL (w7.alloc (.cells #[] 35)) B2 other.length other ∧ other.length ≤ l2) := ⟨T17.out.alloc _, m1, T27.out.alloc _, m2⟩; have HB8 := Lib.hid (HB7.out.alloc HB7.out.size (.cells #[] 35))
   have hz8 : (w7.alloc (.cells #[] 35)).heap.size = w7.heap.size + 1 := by simp
   clear HM7 HL7 HRr HV7 HB7 T17 T27 m1 m2 hS
   go_wp2_with (fail)
   generalize w7.alloc (.cells #[] 35) = W0 at *; generalize w7.heap.size = gl at *
   have HW0S : Hid (∀ k, S k → w.heap.size ≤ k) := fun k hk => by rw [HSS.out] at hk; rcases hk with h | h <;> omega
   have hgS : Hid (S g1) := by unfold Hid; rw [HSS.out]; exact .inl rfl
   go_loopw [4, 5, 11, 12] (fun v4 v5 v11 v12 wr => ∃ (k : Nat) (B1 : Option Addr) (l1 : Nat) (B2 : Option Addr) (l2 : Nat), k ≤ len ∧ v12 = .int .i64 k ∧ v4 = .slice B1 own.length l1 ∧ v5 = .slice B2 other.length l2 ∧ Hid (SL wr B1 own.length own ∧ own.length ≤ l1 ∧ SL wr B2 other.length other ∧ other.length ≤ l2) ∧ (∃ vx, vx = v11 ∧ Hid (OwnE wr gl vx (ls.take k))) ∧ Hid (Cel wr g1 [.int .i64 p, .int .i64 c', .int .i64 h', .int .i64 s']) ∧ Hid (Frm S W0 wr)) (fun _ _ _ v12 _ => len - (intOf v12).toNat)
   case atStart => exact ⟨0, B1, l1, B2, l2, by omega, rfl, rfl, rfl, HS8.out, ⟨_, rfl, HO8.out⟩, HV8.out, Frm.refl S _⟩
   case round =>
     clear HO8 HV8 HS8; obtain ⟨k, B1, l1, B2, l2, hk, rfl, rfl, rfl, HS, ⟨vx, rfl, HO⟩, HV, HF⟩ := hrel; have HB := Lib.hid (HB8.out.trans (HF.out.below HB8.out.size HW0S.out))
     by_cases hlt : k < len
     · have hki : (k : Int) < (len : Int) := by omega
       obtain ⟨b3r, off3, hA3, hb3, q1, q2⟩ := (HR8.out.frm HF.out).at hlt; subst hA3; have hlk := HLK.out k hlt
       have HTS : Hid (ls.take (k + 1) = ls.take k ++ [ls.getD k zeroE']) := by
         unfold Hid
         rw [List.take_succ_eq_append_getElem (by rw [HLL.out]; exact hlt)]
         simp [List.getD, show k < ls.length by rw [HLL.out]; exact hlt]
       generalize ls.getD k zeroE' = lk at *; obtain ⟨ln, ld⟩ := lk
       simp only at hlk
       generalize ((rollsN s').getD k (0, 0)).1 = ra at *; generalize ((rollsN s').getD k (0, 0)).2 = rb at *
       have RL1 : Hid (∀ W : World, SL W B1 own.length own → SL W B2 other.length other → Calls Tryz.prog 19 #[.agg #[.int .i64 p, .int .i64 c', .int .i64 h', .int .i64 s'], .slice B1 own.length l1, .slice B2 other.length l2, .agg #[.int .i64 (ra : Nat), .int .i64 (rb : Nat)]] W fun e w' => e = .returned (.tuple #[.agg #[.int .i64 ln, .int .i64 (ld : Int)], .int .i64 0]) ∧ Below W.heap.size W w') := fun W h1 h2 => by
         have := RaceLuck_any p c' h' s' ra rb B1 B2 own.length other.length l1 l2 own other W h1 h2 HS.out.2.1 HS.out.2.2.2
         rw [hlk] at this; exact this
       clear hlk
       have HVS : Hid ((ls.take k).length = k) := by unfold Hid; rw [List.length_take, HLL.out]; omega
       have c0 := HV.out.cell 0 _ rfl; have c1 := HV.out.cell 1 _ rfl; have c2 := HV.out.cell 2 _ rfl; have c3 := HV.out.cell 3 _ rfl; have cz := HV.out.lt
       go_wp2_with (fail)
       refine wp_region_blk 11 10 13 _ _ (.cells #[.int .i64 0, .int .i64 0] 35) (by kernel_rfl) (by kernel_rfl) rfl rfl rfl (fun _ _ => by kernel_rfl) rfl (pure_extract _ _ _ _ rfl rfl) (fun _ _ _ _ h => h) (by kernel_rfl) ?_
       clear c0 c1 c2 c3 cz
       apply Exists.intro
       refine ⟨fun X hX => ?_, fun t1 t2 => ?_⟩
       ·
         have hXb : Below wr.heap.size wr X := by obtain ⟨t0, rfl⟩ := hX; exact below_more wr t0
         have HX := Lib.hid (HV.out.below hXb); have HX1 := Lib.hid (HS.out.1.below hXb); have HX2 := Lib.hid (HS.out.2.2.1.below hXb); have y1 := keep_cell q1 hXb; have y2 := keep_cell q2 hXb; have y5 : b3r < X.heap.size := World.block_lt_of_cell? X _ y1; clear hX hXb; have c0 := HX.out.cell 0 _ rfl; have c1 := HX.out.cell 1 _ rfl; have c2 := HX.out.cell 2 _ rfl; have c3 := HX.out.cell 3 _ rfl; have cz := HX.out.lt
         simp only [List.take_succ_cons, List.take_zero]
         repeat (first | go_big_quiet_step (first | (go_at_call 19; exact more_call (RL1.out _ (HX1.out.more _) (HX2.out.more _))) | fail) | quiet_step (first | (go_at_call 19; exact more_call (RL1.out _ (HX1.out.more _) (HX2.out.more _))) | fail))
         exact wpQuiet_nil rfl
       simp only [List.drop_succ_cons, List.drop_zero, Act.put]
       have HBU := Lib.hid (blk_below wr t1 t2 (.cells #[.int .i64 0, .int .i64 0] 35)); have HXU : Hid (Cel (more ((more wr t1).alloc (.cells #[.int .i64 0, .int .i64 0] 35)) t2) (more wr t1).heap.size [.int .i64 0, .int .i64 0]) := (Cel.new (more wr t1) #[.int .i64 0, .int .i64 0] 35).below (below_more _ t2); have hbb := size_more wr t1; clear q1 q2 hb3 RL1; generalize more ((more wr t1).alloc (.cells #[.int .i64 0, .int .i64 0] 35)) t2 = U at *; generalize (more wr t1).heap.size = bb at *; have c0 := HXU.out.cell 0 _ rfl; have c1 := HXU.out.cell 1 _ rfl; have f0 := HXU.out.froz 0 _ rfl; have f1 := HXU.out.froz 1 _ rfl; have cz := HXU.out.lt
       go_wp2_with (fail)
       clear c0 c1 f0 f1 cz
       have HXU2 : Hid (Cel ((U.setCell ⟨bb, 0, none⟩ (.int .i64 ln)).setCell ⟨bb, 1, none⟩ (.int .i64 (ld : Int))) bb [.int .i64 ln, .int .i64 (ld : Int)]) := (HXU.out.st (i := 0) (v := .int .i64 ln) (by simp)).st (i := 1) (v := .int .i64 (ld : Int)) (by simp)
       have HBU2 := Lib.hid (bel_set' (bel_set' HBU.out hbb (.int .i64 ln) (i := 0)) hbb (.int .i64 (ld : Int)) (i := 1)); clear HXU HBU; generalize (U.setCell ⟨bb, 0, none⟩ (.int .i64 ln)).setCell ⟨bb, 1, none⟩ (.int .i64 (ld : Int)) = U2 at *; have HVU2 := Lib.hid (HV.out.below HBU2.out); have hgw : g1 < wr.heap.size := HV.out.lt
       refine (HD.out U2 (HC.out.below (HB.out.trans (HBU2.out.mono HB.out.size)))).mono ?_
       rintro e w4 ⟨v1, v2, rfl, h1, h2, hb⟩
       obtain ⟨D1, d1, rfl, s1, m1⟩ := h1.read; obtain ⟨D2, d2, rfl, s2, m2⟩ := h2.read; have HV4 := Lib.hid (HVU2.out.below hb); have HX4 := Lib.hid (HXU2.out.below hb); have HB4 := Lib.hid (HBU2.out.trans (hb.mono HBU2.out.size)); have H1 := Lib.hid h1; have H2 := Lib.hid h2; have hU2 : wr.heap.size ≤ U2.heap.size := HBU2.out.size; clear h1 h2 s1 s2 hb HVU2 HXU2 HBU2; have c0 := HV4.out.cell 0 _ rfl; have c1 := HV4.out.cell 1 _ rfl; have c2 := HV4.out.cell 2 _ rfl; have c3 := HV4.out.cell 3 _ rfl; have cz := HV4.out.lt; have f0 := HV4.out.froz 0 _ rfl; have f1 := HV4.out.froz 1 _ rfl; have f2 := HV4.out.froz 2 _ rfl; have f3 := HV4.out.froz 3 _ rfl
       go_wp2_with (fail)
       clear c0 c1 c2 c3 cz f0 f1 f2 f3; have hF4 := four_frm w4 g1 (.int .i64 p) (.int .i64 c') (.int .i64 h') (.int .i64 s')
       have hFg := (Frm.of_below' (fun k => k = g1) HB4.out).trans hF4
       have HV5 := Lib.hid HV4.out.four
       have HX5 := Lib.hid (HX4.out.frm hF4 (by show ¬ (_ = _); omega))
       have HP1 := Lib.hid (hF4.own H1.out fun k hk => by have := (H1.out.lt k hk).1; show ¬ (_ = _); omega)
       have HP2 := Lib.hid (hF4.own H2.out fun k hk => by have := (H2.out.lt k hk).1; show ¬ (_ = _); omega)
       have HO5 := Lib.hid (hFg.rowE HO.out fun k hk => by have := (World.ownsRow.lt HO.out k hk).1; show ¬ (_ = _); omega)
       have HF5 := Lib.hid (HF.out.trans (hFg.mono fun k hk => by subst hk; exact hgS.out))
       clear hF4 hFg HV4 HX4 H1 H2; generalize (((w4.setCell ⟨g1, 0, none⟩ (.int .i64 p)).setCell ⟨g1, 1, none⟩ (.int .i64 c')).setCell ⟨g1, 2, none⟩ (.int .i64 h')).setCell ⟨g1, 3, none⟩ (.int .i64 s') = V5 at *; obtain ⟨bL, oL, hAL, _, p1, p2⟩ := (HL8.out.frm HF5.out).at hlt; subst hAL; obtain ⟨bM, oM, hAM, _, p3, p4⟩ := (HM8.out.frm HF5.out).at hlt; subst hAM; generalize ys.getD k ⟨0, 0⟩ = y at *; obtain ⟨yn, yd⟩ := y
       simp only at p1 p2 p3 p4
       have ne : ∀ W : World, (binOp .neq 35 (.agg #[.int .i64 yn, .int .i64 (yd : Int)]) (.agg #[.int .i64 yn, .int .i64 (yd : Int)])).run Tryz.prog W = .ok (.bool false) W := fun W => by rw [neq_exact]; simp
       go_quiet (fail)
       have HX6 : Hid (Cel (V5.drewN nq) bb [.int .i64 ln, .int .i64 (ld : Int)]) := ⟨HX5.out.lt, HX5.out.cell, HX5.out.froz⟩; have HV6 : Hid (Cel (V5.drewN nq) g1 [.int .i64 p, .int .i64 c', .int .i64 h', .int .i64 s']) := ⟨HV5.out.lt, HV5.out.cell, HV5.out.froz⟩; have HP16 : Hid (OwnS (V5.drewN nq) U2.heap.size 2 (.slice D1 own.length d1) own) := HP1.out.below (below_drewN' (Below.refl _ _) _); have HP26 : Hid (OwnS (V5.drewN nq) U2.heap.size 2 (.slice D2 other.length d2) other) := HP2.out.below (below_drewN' (Below.refl _ _) _); have HO6 : Hid (OwnE (V5.drewN nq) gl vx (ls.take k)) := HO5.out.below (below_drewN' (Below.refl _ _) _); have HF6 : Hid (Frm S W0 (V5.drewN nq)) := HF5.out.drewN _; clear HX5 HV5 HP1 HP2 HO5 HF5 p1 p2 p3 p4 ne; generalize V5.drewN nq = V6 at *; have c0 := HX6.out.cell 0 _ rfl; have c1 := HX6.out.cell 1 _ rfl; have cz := HX6.out.lt
       have hgl6 : gl ≤ V6.heap.size := by have := HF6.out.size; omega
       have HVL := Lib.hid fun (j : Nat) (hj : vx.ownBlock = some j) => World.ownsRow.lt HO.out j hj
       go_wp2_with (at_builtin; (refine wpList_append_own _ rfl _ _ 29 rfl gl 35 i0 (.agg #[.int .i64 0, .int .i64 0]) 2 16 Tryz.underlying29 hi iz0 iz1 iz2 rfl (by decide) _ _ _ rfl (row_alloc HO6.out _) ⟨V6.heap.size, 0, none⟩ 1 1 [.int .i64 ln, .int .i64 (ld : Int)] rfl rfl (two_new _ _ _ _) (two_cells _ _) (by have := HVS.out; unfold maxLen; omega) (by have := HVS.out; omega) (by simp; omega) ?_); intro v' w8 hown hgrow _)
       clear c0 c1 cz; have hFa := Frm.of_grown hgrow
       have HV8 := Lib.hid ((HV6.out.alloc (.cells #[.int .i64 ln, .int .i64 (ld : Int)] 35)).frm hFa fun hk => by have := (HVL.out g1 hk.symm).1; omega)
       have HQ1 := Lib.hid (hFa.own (HP16.out.alloc (.cells #[.int .i64 ln, .int .i64 (ld : Int)] 35)) fun j hj hk => by have := (HVL.out j hk.symm).2; have := (HP16.out.lt j hj).1; omega)
       have HQ2 := Lib.hid (hFa.own (HP26.out.alloc (.cells #[.int .i64 ln, .int .i64 (ld : Int)] 35)) fun j hj hk => by have := (HVL.out j hk.symm).2; have := (HP26.out.lt j hj).1; omega)
       have HF8 := Lib.hid ((HF6.out.alloc (.cells #[.int .i64 ln, .int .i64 (ld : Int)] 35)).trans (hFa.mono fun j hj => by rw [HSS.out]; exact .inr (HVL.out j hj.symm).1))
       have HO8 : Hid (OwnE w8 gl v' (ls.take (k + 1))) := by
         unfold Hid OwnE; rw [HTS.out, exC_snoc, List.length_append]
         exact hown
       clear hown hgrow hFa HX6 HV6 HP16 HP26 HO6 HF6 HTS
       go_wp2_with (fail)
       go_roundw
       case rel => exact ⟨k + 1, D1, d1, D2, d2, by omega, by go_num, rfl, rfl, ⟨(HQ1.out.sl rfl).1, m1, (HQ2.out.sl rfl).1, m2⟩, ⟨_, rfl, HO8.out⟩, HV8.out, HF8.out⟩
       case measure => (simp [intOf]) <;> omega
     · have hke : k = len := by omega
       subst hke
       have hlt' : ls.take k = ls := List.take_of_length_le (by rw [HLL.out]; exact Nat.le_refl _)
       obtain ⟨Ax, cx, rfl, hex, hcx⟩ := OwnE.readS (n := k) (S := fun _ => False) HO.out (by rw [hlt']; exact HLL.out) (fun _ _ h => h)
       rw [hlt'] at hex; have HX := Lib.hid hex; have HY := Lib.hid (HL8.out.frm HF.out).all; clear hex hlt' HO HF HL8 HM8 HR8; have c0 := HV.out.cell 0 _ rfl; have c1 := HV.out.cell 1 _ rfl; have c2 := HV.out.cell 2 _ rfl; have c3 := HV.out.cell 3 _ rfl; have cz := HV.out.lt
       go_wp2_with (fail)
       clear c0 c1 c2 c3 cz
       refine (sMeanExact_any p c' h' s' k cl Al ys x wr hvar HY.out HYL.out.symm HYV.out HYM.out).mono ?_
       rintro e w9 ⟨rfl, hb⟩
       have hT9 := hb.trans ((Bel.alloc w9 (.cells #[.int .i64 x.num, .int .i64 (x.depth : Int)] 35)).mono hb.size); have HX9 := Lib.hid (HX.out.below hT9); have HV9 := Lib.hid (HV.out.below hT9); have HS9 := Lib.hid (HS.out.1.below hT9); have HT9 := Lib.hid (HS.out.2.2.1.below hT9); have HB9 := Lib.hid (HB.out.trans (hT9.mono HB.out.size)); have HU9 : Hid (Cel (w9.alloc (.cells #[.int .i64 x.num, .int .i64 (x.depth : Int)] 35)) w9.heap.size [.int .i64 x.num, .int .i64 (x.depth : Int)]) := Cel.new w9 #[.int .i64 x.num, .int .i64 (x.depth : Int)] _; clear hb hT9 HX HV HB HY; have c0 := HV9.out.cell 0 _ rfl; have c1 := HV9.out.cell 1 _ rfl; have c2 := HV9.out.cell 2 _ rfl; have c3 := HV9.out.cell 3 _ rfl; have cz := HV9.out.lt
       go_wp2_with (fail)
       clear c0 c1 c2 c3 cz; generalize w9.alloc (.cells #[.int .i64 x.num, .int .i64 (x.depth : Int)] 35) = V9 at *; generalize w9.heap.size = g9 at *
       refine (sMeanExact_any p c' h' s' k cx Ax ls zeroE' V9 hvar HX9.out HYL.out.symm HLV.out HLM.out).mono ?_
       rintro e wa ⟨he, hb⟩
       have he' : e = .returned (.tuple #[.agg #[.int .i64 0, .int .i64 0], .int .i64 0]) := he; subst he'; have hTa := hb.trans ((Bel.alloc wa (.cells #[.int .i64 0, .int .i64 0] 35)).mono hb.size); have HVa := Lib.hid (HV9.out.below hTa); have HSa := Lib.hid (HS9.out.below hTa); have HTa := Lib.hid (HT9.out.below hTa); have HUa := Lib.hid (HU9.out.below hTa); have HBa := Lib.hid (HB9.out.trans (hTa.mono HB9.out.size)); have HZa : Hid (Cel (wa.alloc (.cells #[.int .i64 0, .int .i64 0] 35)) wa.heap.size [.int .i64 0, .int .i64 0]) := Cel.new wa #[.int .i64 0, .int .i64 0] _; clear he hb hTa HX9 HV9 HS9 HT9 HU9 HB9; have c0 := HVa.out.cell 0 _ rfl; have c1 := HVa.out.cell 1 _ rfl; have c2 := HVa.out.cell 2 _ rfl; have c3 := HVa.out.cell 3 _ rfl; have cz := HVa.out.lt
       go_wp2_with (fail)
       clear c0 c1 c2 c3 cz; generalize wa.alloc (.cells #[.int .i64 0, .int .i64 0] 35) = Va at *; generalize wa.heap.size = ga at *
       refine (WinChance_any p c' h' s' B1 B2 _ _ l1 l2 own other Va HSa.out HTa.out HS.out.2.1 HS.out.2.2.2).mono ?_
       rintro e wb ⟨rfl, hb⟩
       rw [HWIN.out]; have hTb := hb.trans ((Bel.alloc wb (.cells #[.int .i64 x.num, .int .i64 (x.depth : Int)] 35)).mono hb.size); have HUb := Lib.hid (HUa.out.below hTb); have HZb := Lib.hid (HZa.out.below hTb); have HBb := Lib.hid (HBa.out.trans (hTb.mono HBa.out.size)); have HWb : Hid (Cel (wb.alloc (.cells #[.int .i64 x.num, .int .i64 (x.depth : Int)] 35)) wb.heap.size [.int .i64 x.num, .int .i64 (x.depth : Int)]) := Cel.new wb #[.int .i64 x.num, .int .i64 (x.depth : Int)] _; clear hb hTb HVa HSa HTa HUa HZa HBa
       have eq1 : ∀ W : World, (binOp .eql 35 (.agg #[.int .i64 x.num, .int .i64 (x.depth : Int)]) (.agg #[.int .i64 x.num, .int .i64 (x.depth : Int)])).run Tryz.prog W = .ok (.bool true) W := fun W => by rw [eql_exact]; simp
       have eq2 : ∀ W : World, (binOp .eql 35 (.agg #[.int .i64 0, .int .i64 0]) (.agg #[.int .i64 0, .int .i64 0])).run Tryz.prog W = .ok (.bool true) W := fun W => by rw [eql_exact]; simp
       have c0 := HUb.out.cell 0 _ rfl; have c1 := HUb.out.cell 1 _ rfl; have c2 := HZb.out.cell 0 _ rfl; have c3 := HZb.out.cell 1 _ rfl; have c4 := HWb.out.cell 0 _ rfl; have c5 := HWb.out.cell 1 _ rfl; have cz := HUb.out.lt; have cy := HZb.out.lt; have cx' := HWb.out.lt
       go_wp2_with (fail)
       go_ret
       exact ⟨rfl, HBb.out⟩
 · have b5 : (kk != 0) = true := by simp [h3]
   go_wp2_with (fail)
   go_ret
   exact ⟨rfl, HB6.out⟩
end Go.Proofs.YtkaiilmgemaljaaGreat

/- Contracts of the reference's l12Chances and RollChances. There are no conditions. -/
import Derived.Test.YtkaiilmgemaljaaGreatPN62
import Derived.Test.YtkaiilmgemaljaaGreatPZv
namespace Go.Proofs.YtkaiilmgemaljaaGreat
set_option linter.unusedVariables false
set_option linter.unusedSimpArgs false
open Go.RowKit Ps Ra Ex

def RetCh (t : RT2) (w : World) (o : Option (List E)) (e : Ending) (w' : World) : Prop := TabI t w' ∧ Frm t.S w w' ∧ match o with
 | none => e = .returned (.tuple #[.slice none 0 0, .bool false])
 | some xs => ∃ v, e = .returned (.tuple #[v, .bool true]) ∧ OwnE w' w.heap.size v xs
theorem RetCh.no {t : RT2} {w w' : World} {o : Option (List E)} (ho : o = none) (h1 : TabI t w') (h2 : Frm t.S w w') : RetCh t w o (.returned (.tuple #[.slice none 0 0, .bool false])) w' := by subst ho; exact ⟨h1, h2, rfl⟩
theorem OwnE.base {w : World} {b b' : Nat} {v : Value} {xs : List E} (h : OwnE w b v xs) (hb : b' ≤ b) : OwnE w b' v xs := by
 obtain ⟨h1, h2⟩ := h
 refine ⟨h1, h2.imp id ?_⟩
 rintro ⟨g, cap, cur, hv, hg, r⟩
 exact ⟨g, cap, cur, hv, Nat.le_trans hb hg, r⟩
theorem RetCh.yes {t : RT2} {w w' : World} {o : Option (List E)} {v : Value} {b : Nat} {xs : List E} (ho : o = some xs) (h1 : TabI t w') (h2 : Frm t.S w w') (hv : OwnE w' b v xs) (hb : w.heap.size ≤ b) : RetCh t w o (.returned (.tuple #[v, .bool true])) w' := by subst ho; exact ⟨h1, h2, v, rfl, hv.base hb⟩
def c6d (i : Nat) : Nat := if i ≤ 12 then 27 + i else if i = 13 then 26 else if i ≤ 16 then 26 + i else 12
theorem c6_ge (i : Nat) : 12 ≤ c6d i := by
 unfold c6d
 split
 · omega
 · split
   · omega
   · split <;> omega
set_option maxRecDepth 100000 in
set_option maxHeartbeats 8000000 in
theorem l12Chances_any (t : RT2) (ht : t.Ok) {own other : List Int} (hq : PosP t.h t.c own) (hq2 : PosP t.h t.c other) (hs0 : own.sum ≠ 0) (ht0 : other.sum ≠ 0) (A B : Option Addr) (ca cb : Nat) (w : World) (hI : TabI t w) (hA : SQ t.S w A t.h own) (hca : t.h ≤ ca) (hB : SQ t.S w B t.h other) (hcb : t.h ≤ cb) :
   Calls Tryz.prog 78 #[.pointer (some ⟨t.bt, 0, none⟩), .slice A t.h ca, .slice B t.h cb] w (RetCh t w (allS (rollE t.s own other) (rollsN t.s))) := by
 obtain ⟨i0, hi, hz0, hz1, hz2⟩ := info_parts Tryz.infoE; have hv := isVar_yes ht.v
 have hs1 : 1 ≤ t.s := by omega
 have hs6 : t.s ≤ 6 := by omega
 have hh24 : t.h ≤ 24 := by omega
 have hh1 : 0 < t.h := by omega
 have hc15 : t.c ≤ 15 := by omega
 obtain ⟨hq1, hq36, _⟩ := sq_bd hs1 hs6; have HLOW := Lib.hid hI.ltS; have HQ := Lib.hid hq; have HQ2 := Lib.hid hq2; have HT := Lib.hid ht; have HS0 := Lib.hid hs0; have HT0 := Lib.hid ht0
 have HVV := Lib.hid fun q (hp : PosP t.h t.c q) (_ : pips q < pips own) => l12Value_all t ht hq2 hp
 have HI1 := Lib.hid hI; have HA1 := Lib.hid hA; have HB1 := Lib.hid hB; clear hI hA hB hq hq2 hs0 ht0 ht hv; have e0 := HI1.out.tb 0 _ rfl; have e1 := HI1.out.tb 1 _ rfl; have e2 := HI1.out.tb 2 _ rfl; have e3 := HI1.out.tb 3 _ rfl; have hbt := HI1.out.ltB
 go_enter Tryz.func78, Tryz.ntmps78
 go_wp2_with (fail)
 refine (l09Rolls_any t.p t.c t.h t.s _ hs6).mono ?_
 rintro e W2 ⟨vr, rfl, hor, hb2⟩
 have hsz1 : ∀ x, w.heap.size ≤ x → ¬ t.S x := fun x hx h => by have := HLOW.out x h; omega
 obtain ⟨Ar, cr, rfl, hRL, hcr⟩ := hor.read (S := t.S) hsz1
 have hnr1 : 0 < (rollsN t.s).length := by
   have h1 := rollsN_length t.s
   have h2 : 1 * 2 ≤ t.s * (t.s + 1) := Nat.mul_le_mul (by omega) (by omega)
   omega
 have hnr21 : (rollsN t.s).length ≤ 21 := rolls_le hs6; obtain ⟨rb, ro, rfl, _, _, _⟩ := hRL.at hnr1; have HRL := Lib.hid hRL; have HF2 : Hid (Frm t.S w W2) := Frm.of_below' _ hb2; have HI2 := Lib.hid (HI1.out.below hb2); have HA2 := Lib.hid (HA1.out.below hb2); have HB2 := Lib.hid (HB1.out.below hb2); have hzW2 : w.heap.size ≤ W2.heap.size := hb2.size
 have hncr : ((rollsN t.s).length : Int) ≤ (cr : Int) := by omega
 clear hor hb2 hRL HI1 HA1 HB1 e0 e1 e2 e3 hbt hsz1
 have HO0 : Hid (OwnE (W2.alloc (.cells #[] 35)) W2.heap.size (.slice (some ⟨W2.heap.size, 0, none⟩) 0 0) []) := by
   have := row_made W2 (base := W2.heap.size) 35 (z := 2) (n := 0) #[] (Nat.le_refl _) (by unfold maxLen; omega) rfl
   exact this
 have HI3 : Hid (TabI t (W2.alloc (.cells #[] 35))) := HI2.out.alloc _; have hfa : Frm t.S W2 (W2.alloc (.cells #[] 35)) := (Frm.refl _ _).alloc _; have HFA := Lib.hid hfa; clear hfa
 go_wp2_with (fail)
 go_loopw [9, 10] (fun v10 v11 wr => ∃ (k : Nat) (xs : List E), k ≤ (rollsN t.s).length ∧ v11 = .int .i64 k ∧ Hid (allS (rollE t.s own other) ((rollsN t.s).take k) = some xs ∧ xs.length = k) ∧ (∃ vx, vx = v10 ∧ Hid (OwnE wr W2.heap.size vx xs)) ∧ Hid (TabI t wr) ∧ Hid (Frm t.S W2 wr)) (fun _ v11 _ => (rollsN t.s).length - (intOf v11).toNat)
 case atStart => exact ⟨0, [], by omega, rfl, ⟨rfl, rfl⟩, ⟨_, rfl, HO0.out⟩, HI3.out, HFA.out⟩
 case round =>
   clear HO0 HI3 HFA; obtain ⟨k, xs, hk, rfl, hxs, ⟨vx, rfl, HO⟩, HI, HFw⟩ := hrel; have HXK := Lib.hid hxs.out.2
   by_cases hlt : k < (rollsN t.s).length
   · have hki : (k : Int) < ((rollsN t.s).length : Int) := by omega
     have hrl := HRL.out.frm HFw.out; obtain ⟨_, _, hA', hzr, q1, q2⟩ := hrl.at hlt; injection hA' with hA'; injection hA' with hA1' hA2'; subst hA1' hA2'
     have hrbS : Hid (¬ t.S rb) := by
       obtain ⟨_, _, hA'', _, hs'', _⟩ := hrl.2.2 (by omega)
       injection hA'' with hA''; injection hA'' with h1'' h2''; subst h1''
       exact hs''
     have hrm := mem_rollsN.1 (getD_mem' (rollsN t.s) (0, 0) hlt); have HLK := Lib.hid hlt
     rcases hab : (rollsN t.s).getD k (0, 0) with ⟨a, b⟩
     rw [hab] at q1 q2 hrm; obtain ⟨r1, r2, r3⟩ := hrm
     simp only at q1 q2 r1 r2 r3
     have HQ1 := Lib.hid q1; have HQ2' := Lib.hid q2; have hzwr : W2.heap.size ≤ wr.heap.size := HFw.out.size
     have hlowr : Hid (∀ x, t.S x → x < wr.heap.size) := fun x hx => by have := HLOW.out x hx; omega
     have HAr := Lib.hid (HA2.out.frm HFw.out); have HBr := Lib.hid (HB2.out.frm HFw.out)
     have HRES := Lib.hid fun (W : World) (hx : SQ t.S W A t.h own) (hS : ∀ x, W.heap.size ≤ x → ¬ t.S x) => l10Results_any t.S t.p t.c t.h t.s A t.h ca a b own W hx.1 hca ⟨HQ.out.1, HQ.out.2.1, by have := HQ.out.2.2; omega⟩ hh24 hh1 r1 r2 (by omega) hS
     have HBST0 := fun (A' : Option Addr) (n c : Nat) (W : World) (hI : TabI t W) (hpl : PL t.S W A' n (resultsL own a b)) (hB : SQ t.S W B t.h other) => l12Best_any t HT.out (resultsL own a b) (fun q h => (results_pos (by omega) r1 HQ.out q h).1) (fun q h => l12After_any t HT.out (results_pos (by omega) r1 HQ.out q h).1 HT0.out (HVV.out q (results_pos (by omega) r1 HQ.out q h).1 ((results_pos (by omega) r1 HQ.out q h).2.2 HS0.out))) A' B n c cb W (by rw [← hpl.len]; exact Nat.le_trans (results_len (by omega) r1 HQ.out hh24) (by omega)) hI hpl hB hcb
     clear q1 q2 hrl r1 r2 r3
     rcases hbs : bestS (sq t.s) (sec t.s other) (resultsL own a b) with _ | ⟨cnt, at', ⟨xn, xd⟩⟩
     · have HRE : Hid (allS (rollE t.s own other) (rollsN t.s) = none) := by
         unfold Hid
         rw [allS_stop HLK.out hxs.out.1 (by rw [hab, rollE_best, hbs]; rfl)]
       rw [hbs] at HBST0; have HBST := Lib.hid HBST0; clear hbs hab HBST0
       go_wp2_with (fail)
       refine wp_region_early 18 (fun i => i == 15 || i == 16) c6d (Frm t.S) (TabI t) (v13G t wr A B ca cb rb ro cr k a b own (.tuple #[.int .i64 0, .agg #[.int .i64 0, .int .i64 0], .bool false]) (.int .i64 0) (.agg #[.int .i64 0, .int .i64 0]) (.bool false)) (by kernel_rfl) (by kernel_rfl) (fun _ _ _ _ _ h => h) (fun _ _ _ h1 h2 => h1.trans h2) (fun _ => Frm.refl _ _) (v13_stab hlowr.out) (Frm.refl _ _).drew HI.out.drew ?_ ?_ ?_
       ·
         intro i o hi hX ho a' W hW hIW hfar hdep
         have dep : ∀ j, j < 18 → Region.waitsFor .any _ i j = true → v13G t wr A B ca cb rb ro cr k a b own (.tuple #[.int .i64 0, .agg #[.int .i64 0, .int .i64 0], .bool false]) (.int .i64 0) (.agg #[.int .i64 0, .int .i64 0]) (.bool false) j (a'.tmps.getD (c6d j) undef) W := hdep
         have hi8 : i = 15 ∨ i = 16 := by simpa using hX
         clear hfar
         rcases hi8 with rfl | rfl
         all_goals
           simp at ho
           subst ho
         · have d1 : a'.tmps.getD 26 undef = .tuple #[.int .i64 0, .agg #[.int .i64 0, .int .i64 0], .bool false] := dep 13 (by omega) (by kernel_rfl)
           exact ⟨.agg #[.int .i64 0, .int .i64 0], fun W' => by simp only [execOp, Act.eval, d1]; go_simp, rfl⟩
         · have d1 : a'.tmps.getD 26 undef = .tuple #[.int .i64 0, .agg #[.int .i64 0, .int .i64 0], .bool false] := dep 13 (by omega) (by kernel_rfl)
           exact ⟨.bool false, fun W' => by simp only [execOp, Act.eval, d1]; go_simp, rfl⟩
       ·
         intro i o hi hX ho a' W hW hIW hfar hdep
         have e0 : a'.tmps.getD 0 undef = .pointer (some ⟨t.bt, 0, none⟩) := (hfar 0 (fun j _ => by have := c6_ge j; omega)).trans rfl
         have e1 : a'.tmps.getD 1 undef = .slice A t.h ca := (hfar 1 (fun j _ => by have := c6_ge j; omega)).trans rfl
         have e2 : a'.tmps.getD 2 undef = .slice B t.h cb := (hfar 2 (fun j _ => by have := c6_ge j; omega)).trans rfl
         have e9 : a'.tmps.getD 8 undef = .slice (some ⟨rb, ro, none⟩) (rollsN t.s).length cr := (hfar 8 (fun j _ => by have := c6_ge j; omega)).trans rfl
         have e11 : a'.tmps.getD 10 undef = .int .i64 (k : Int) := (hfar 10 (fun j _ => by have := c6_ge j; omega)).trans rfl
         have dep : ∀ j, j < 18 → Region.waitsFor .any _ i j = true → v13G t wr A B ca cb rb ro cr k a b own (.tuple #[.int .i64 0, .agg #[.int .i64 0, .int .i64 0], .bool false]) (.int .i64 0) (.agg #[.int .i64 0, .int .i64 0]) (.bool false) j (a'.tmps.getD (c6d j) undef) W := hdep
         have hX2 : i ≠ 15 ∧ i ≠ 16 := by simpa using hX
         have hi8 : i = 0 ∨ i = 1 ∨ i = 2 ∨ i = 3 ∨ i = 4 ∨ i = 5 ∨ i = 6 ∨ i = 7 ∨ i = 8 ∨ i = 9 ∨ i = 10 ∨ i = 11 ∨ i = 12 ∨ i = 13 ∨ i = 14 ∨ i = 17 := by omega
         clear hfar
         rcases hi8 with rfl | rfl | rfl | rfl | rfl | rfl | rfl | rfl | rfl | rfl | rfl | rfl | rfl | rfl | rfl | rfl
         all_goals
           simp at ho
           subst ho
         · exact .inl ⟨.pointer (some ⟨t.bt, 0, none⟩), W, by simp only [execOp, Act.eval, e0]; go_simp, Frm.refl _ _, hIW, rfl⟩
         · exact .inl ⟨.pointer (some ⟨t.bt, 0, none⟩), W, by simp only [execOp, Act.eval, e0]; go_simp, Frm.refl _ _, hIW, rfl⟩
         · have d1 : a'.tmps.getD 28 undef = .pointer (some ⟨t.bt, 0, none⟩) := dep 1 (by omega) (by kernel_rfl)
           exact .inl ⟨.pointer (some ⟨t.bt, 0, none⟩), W, by simp only [execOp, Act.eval, d1]; go_simp, Frm.refl _ _, hIW, rfl⟩
         · have d1 : a'.tmps.getD 29 undef = .pointer (some ⟨t.bt, 0, none⟩) := dep 2 (by omega) (by kernel_rfl)
           exact .inl ⟨.pointer (some ⟨t.bt, 0, none⟩), W, by simp only [execOp, Act.eval, d1]; go_simp, Frm.refl _ _, hIW, rfl⟩
         · have d1 : a'.tmps.getD 30 undef = .pointer (some ⟨t.bt, 0, none⟩) := dep 3 (by omega) (by kernel_rfl)
           have q0 := hIW.tb 0 _ rfl; have q1 := hIW.tb 1 _ rfl; have q2 := hIW.tb 2 _ rfl; have q3 := hIW.tb 3 _ rfl
           exact .inl ⟨.agg #[.int .i64 t.p, .int .i64 t.c, .int .i64 t.h, .int .i64 t.s], W, by simp only [execOp, Act.eval, d1]; go_simp, Frm.refl _ _, hIW, rfl⟩
         · exact .inl ⟨.slice A t.h ca, W, by simp only [execOp, Act.eval, e1]; go_simp, Frm.refl _ _, hIW, rfl⟩
         · exact .inl ⟨.slice (some ⟨rb, ro, none⟩) (rollsN t.s).length cr, W, by simp only [execOp, Act.eval, e9]; go_simp, Frm.refl _ _, hIW, rfl⟩
         · exact .inl ⟨.int .i64 (k : Int), W, by simp only [execOp, Act.eval, e11]; go_simp, Frm.refl _ _, hIW, rfl⟩
         · have d1 : a'.tmps.getD 33 undef = .slice (some ⟨rb, ro, none⟩) (rollsN t.s).length cr := dep 6 (by omega) (by kernel_rfl)
           have d2 : a'.tmps.getD 34 undef = .int .i64 (k : Int) := dep 7 (by omega) (by kernel_rfl)
           exact .inl ⟨.pointer (some ⟨rb, ro + k * 2, none⟩), W, by simp only [execOp, Act.eval, d1, d2]; go_simp, Frm.refl _ _, hIW, rfl⟩
         · have d1 : a'.tmps.getD 35 undef = .pointer (some ⟨rb, ro + k * 2, none⟩) := dep 8 (by omega) (by kernel_rfl)
           have q1 := hW.cell' HQ1.out hrbS.out; have q2 := hW.cell' HQ2'.out hrbS.out
           exact .inl ⟨.agg #[.int .i64 (a : Int), .int .i64 (b : Int)], W, by simp only [execOp, Act.eval, d1]; go_simp, Frm.refl _ _, hIW, rfl⟩
         · have d1 : a'.tmps.getD 31 undef = .agg #[.int .i64 t.p, .int .i64 t.c, .int .i64 t.h, .int .i64 t.s] := dep 4 (by omega) (by kernel_rfl)
           have d2 : a'.tmps.getD 32 undef = .slice A t.h ca := dep 5 (by omega) (by kernel_rfl)
           have d3 : a'.tmps.getD 36 undef = .agg #[.int .i64 (a : Int), .int .i64 (b : Int)] := dep 9 (by omega) (by kernel_rfl)
           refine .inr ⟨91, #[.agg #[.int .i64 t.p, .int .i64 t.c, .int .i64 t.h, .int .i64 t.s], .slice A t.h ca, .agg #[.int .i64 (a : Int), .int .i64 (b : Int)]], by simp only [execOp, Act.eval, d1, d2, d3]; go_simp, ?_⟩
           refine (HRES.out W (HAr.out.frm hW) (fun x hx h => by have := hlowr.out x h; have := hW.size; omega)).mono ?_
           rintro e W' ⟨b', off, n', c', rfl, hpl, hc, hb'⟩
           exact ⟨_, rfl, Frm.of_below' _ hb', hIW.below hb', b', off, n', c', rfl, hpl, hc⟩
         · exact .inl ⟨.slice B t.h cb, W, by simp only [execOp, Act.eval, e2]; go_simp, Frm.refl _ _, hIW, rfl⟩
         · have d1 : a'.tmps.getD 27 undef = .pointer (some ⟨t.bt, 0, none⟩) := dep 0 (by omega) (by kernel_rfl)
           obtain ⟨b', off, n', c', d2, hpl, hc⟩ : ∃ b' off n c, a'.tmps.getD 37 undef = .slice (some ⟨b', off, none⟩) n c ∧ PL t.S W (some ⟨b', off, none⟩) n (resultsL own a b) ∧ n ≤ c := dep 10 (by omega) (by kernel_rfl)
           have d3 : a'.tmps.getD 38 undef = .slice B t.h cb := dep 11 (by omega) (by kernel_rfl)
           refine .inr ⟨92, #[.pointer (some ⟨t.bt, 0, none⟩), .slice (some ⟨b', off, none⟩) n' c', .slice B t.h cb], by simp only [execOp, Act.eval, d1, d2, d3]; go_simp, ?_⟩
           refine (HBST.out (some ⟨b', off, none⟩) n' c' W hIW hpl (HBr.out.frm hW)).mono ?_
           rintro e W' ⟨hI', hf', rfl⟩
           exact ⟨_, rfl, hf', hI', rfl⟩
         · have d1 : a'.tmps.getD 39 undef = .tuple #[.int .i64 0, .agg #[.int .i64 0, .int .i64 0], .bool false] := dep 12 (by omega) (by kernel_rfl)
           exact .inl ⟨.tuple #[.int .i64 0, .agg #[.int .i64 0, .int .i64 0], .bool false], W, by simp only [execOp, Act.eval, d1]; go_simp, Frm.refl _ _, hIW, rfl⟩
         · have d1 : a'.tmps.getD 26 undef = .tuple #[.int .i64 0, .agg #[.int .i64 0, .int .i64 0], .bool false] := dep 13 (by omega) (by kernel_rfl)
           exact .inl ⟨.int .i64 0, W, by simp only [execOp, Act.eval, d1]; go_simp, Frm.refl _ _, hIW, rfl⟩
         · refine .inl ⟨.pointer (some ⟨W.heap.size, 0, none⟩), W.alloc (.cells #[.int .i64 0, .int .i64 0] 35), by kernel_rfl, (Frm.refl _ _).alloc _, hIW.alloc _, W.heap.size, rfl, hW.size, ?_, ?_, ?_, ?_⟩ <;> simp [go_sem]
       intro v W hW hIW hg
       have g0 : v 0 = .pointer (some ⟨t.bt, 0, none⟩) := hg 0 (by omega)
       have g1 : v 1 = .pointer (some ⟨t.bt, 0, none⟩) := hg 1 (by omega)
       have g2 : v 2 = .pointer (some ⟨t.bt, 0, none⟩) := hg 2 (by omega)
       have g3 : v 3 = .pointer (some ⟨t.bt, 0, none⟩) := hg 3 (by omega)
       have g4 : v 4 = .agg #[.int .i64 t.p, .int .i64 t.c, .int .i64 t.h, .int .i64 t.s] := hg 4 (by omega)
       have g5 : v 5 = .slice A t.h ca := hg 5 (by omega)
       have g6 : v 6 = .slice (some ⟨rb, ro, none⟩) (rollsN t.s).length cr := hg 6 (by omega)
       have g7 : v 7 = .int .i64 (k : Int) := hg 7 (by omega)
       have g8 : v 8 = .pointer (some ⟨rb, ro + k * 2, none⟩) := hg 8 (by omega)
       have g9 : v 9 = .agg #[.int .i64 (a : Int), .int .i64 (b : Int)] := hg 9 (by omega)
       obtain ⟨_, _, _, _, g10, _, _⟩ : ∃ b' off n c, v 10 = .slice (some ⟨b', off, none⟩) n c ∧ PL t.S W (some ⟨b', off, none⟩) n (resultsL own a b) ∧ n ≤ c := hg 10 (by omega)
       have g11 : v 11 = .slice B t.h cb := hg 11 (by omega)
       have g12 : v 12 = .tuple #[.int .i64 0, .agg #[.int .i64 0, .int .i64 0], .bool false] := hg 12 (by omega)
       have g13 : v 13 = .tuple #[.int .i64 0, .agg #[.int .i64 0, .int .i64 0], .bool false] := hg 13 (by omega)
       have g14 : v 14 = .int .i64 0 := hg 14 (by omega)
       have g15 : v 15 = .agg #[.int .i64 0, .int .i64 0] := hg 15 (by omega)
       have g16 : v 16 = .bool false := hg 16 (by omega)
       obtain ⟨g, g17, gl, y0, y1, y2, y3⟩ : ∃ g, v 17 = .pointer (some ⟨g, 0, none⟩) ∧ wr.heap.size ≤ g ∧ W.cell? ⟨g, 0, none⟩ = some (.int .i64 0) ∧ W.cell? ⟨g, 1, none⟩ = some (.int .i64 0) ∧ W.frozen? ⟨g, 0, none⟩ = false ∧ W.frozen? ⟨g, 1, none⟩ = false := hg 17 (by omega)
       simp only [List.drop_succ_cons, List.drop_zero, putV, c6d, g0, g1, g2, g3, g4, g5, g6, g7, g8, g9, g10, g11, g12, g13, g14, g15, g16, g17, Act.put]
       clear g0 g1 g2 g3 g4 g5 g6 g7 g8 g9 g10 g11 g12 g13 g14 g15 g16 g17 hg; have HW := Lib.hid hW; have HIw := Lib.hid hIW; have yz := World.block_lt_of_cell? W _ y0; clear hW hIW
       have hgS : ¬ t.S g := fun h => by have := hlowr.out g h; omega
       have hgB : t.bt ≠ g := fun h => by have := HI.out.ltB; omega
       have HFe := Lib.hid (HFw.out.trans HW.out); clear HO
       go_wp2_with (fail)
       go_ret2
       refine RetCh.no HRE.out ?_ ?_
       · repeat (first | exact HIw.out | refine TabI.alloc ?_ _ | refine TabI.stored ?_ _ hgS hgB)
       · repeat (first | exact HF2.out.trans HFe.out | refine Frm.alloc ?_ _ | refine Frm.ownSet ?_ (by omega) _)
     · have HXS : Hid (allS (rollE t.s own other) ((rollsN t.s).take (k + 1)) = some (xs ++ [⟨xn, xd⟩])) := allS_go HLK.out hxs.out.1 (by rw [hab, rollE_best, hbs]; rfl)
       rw [hbs] at HBST0; have HBST := Lib.hid HBST0; clear hbs hab HBST0
       go_wp2_with (fail)
       refine wp_region_early 18 (fun i => i == 15 || i == 16) c6d (Frm t.S) (TabI t) (v13G t wr A B ca cb rb ro cr k a b own (.tuple #[.int .i64 (at' : Int), .agg #[.int .i64 xn, .int .i64 (xd : Int)], .bool true]) (.int .i64 (at' : Int)) (.agg #[.int .i64 xn, .int .i64 (xd : Int)]) (.bool true)) (by kernel_rfl) (by kernel_rfl) (fun _ _ _ _ _ h => h) (fun _ _ _ h1 h2 => h1.trans h2) (fun _ => Frm.refl _ _) (v13_stab hlowr.out) (Frm.refl _ _).drew HI.out.drew ?_ ?_ ?_
       ·
         intro i o hi hX ho a' W hW hIW hfar hdep
         have dep : ∀ j, j < 18 → Region.waitsFor .any _ i j = true → v13G t wr A B ca cb rb ro cr k a b own (.tuple #[.int .i64 (at' : Int), .agg #[.int .i64 xn, .int .i64 (xd : Int)], .bool true]) (.int .i64 (at' : Int)) (.agg #[.int .i64 xn, .int .i64 (xd : Int)]) (.bool true) j (a'.tmps.getD (c6d j) undef) W := hdep
         have hi8 : i = 15 ∨ i = 16 := by simpa using hX
         clear hfar
         rcases hi8 with rfl | rfl
         all_goals
           simp at ho
           subst ho
         · have d1 : a'.tmps.getD 26 undef = .tuple #[.int .i64 (at' : Int), .agg #[.int .i64 xn, .int .i64 (xd : Int)], .bool true] := dep 13 (by omega) (by kernel_rfl)
           exact ⟨.agg #[.int .i64 xn, .int .i64 (xd : Int)], fun W' => by simp only [execOp, Act.eval, d1]; go_simp, rfl⟩
         · have d1 : a'.tmps.getD 26 undef = .tuple #[.int .i64 (at' : Int), .agg #[.int .i64 xn, .int .i64 (xd : Int)], .bool true] := dep 13 (by omega) (by kernel_rfl)
           exact ⟨.bool true, fun W' => by simp only [execOp, Act.eval, d1]; go_simp, rfl⟩
       ·
         intro i o hi hX ho a' W hW hIW hfar hdep
         have e0 : a'.tmps.getD 0 undef = .pointer (some ⟨t.bt, 0, none⟩) := (hfar 0 (fun j _ => by have := c6_ge j; omega)).trans rfl
         have e1 : a'.tmps.getD 1 undef = .slice A t.h ca := (hfar 1 (fun j _ => by have := c6_ge j; omega)).trans rfl
         have e2 : a'.tmps.getD 2 undef = .slice B t.h cb := (hfar 2 (fun j _ => by have := c6_ge j; omega)).trans rfl
         have e9 : a'.tmps.getD 8 undef = .slice (some ⟨rb, ro, none⟩) (rollsN t.s).length cr := (hfar 8 (fun j _ => by have := c6_ge j; omega)).trans rfl
         have e11 : a'.tmps.getD 10 undef = .int .i64 (k : Int) := (hfar 10 (fun j _ => by have := c6_ge j; omega)).trans rfl
         have dep : ∀ j, j < 18 → Region.waitsFor .any _ i j = true → v13G t wr A B ca cb rb ro cr k a b own (.tuple #[.int .i64 (at' : Int), .agg #[.int .i64 xn, .int .i64 (xd : Int)], .bool true]) (.int .i64 (at' : Int)) (.agg #[.int .i64 xn, .int .i64 (xd : Int)]) (.bool true) j (a'.tmps.getD (c6d j) undef) W := hdep
         have hX2 : i ≠ 15 ∧ i ≠ 16 := by simpa using hX
         have hi8 : i = 0 ∨ i = 1 ∨ i = 2 ∨ i = 3 ∨ i = 4 ∨ i = 5 ∨ i = 6 ∨ i = 7 ∨ i = 8 ∨ i = 9 ∨ i = 10 ∨ i = 11 ∨ i = 12 ∨ i = 13 ∨ i = 14 ∨ i = 17 := by omega
         clear hfar
         rcases hi8 with rfl | rfl | rfl | rfl | rfl | rfl | rfl | rfl | rfl | rfl | rfl | rfl | rfl | rfl | rfl | rfl
         all_goals
           simp at ho
           subst ho
         · exact .inl ⟨.pointer (some ⟨t.bt, 0, none⟩), W, by simp only [execOp, Act.eval, e0]; go_simp, Frm.refl _ _, hIW, rfl⟩
         · exact .inl ⟨.pointer (some ⟨t.bt, 0, none⟩), W, by simp only [execOp, Act.eval, e0]; go_simp, Frm.refl _ _, hIW, rfl⟩
         · have d1 : a'.tmps.getD 28 undef = .pointer (some ⟨t.bt, 0, none⟩) := dep 1 (by omega) (by kernel_rfl)
           exact .inl ⟨.pointer (some ⟨t.bt, 0, none⟩), W, by simp only [execOp, Act.eval, d1]; go_simp, Frm.refl _ _, hIW, rfl⟩
         · have d1 : a'.tmps.getD 29 undef = .pointer (some ⟨t.bt, 0, none⟩) := dep 2 (by omega) (by kernel_rfl)
           exact .inl ⟨.pointer (some ⟨t.bt, 0, none⟩), W, by simp only [execOp, Act.eval, d1]; go_simp, Frm.refl _ _, hIW, rfl⟩
         · have d1 : a'.tmps.getD 30 undef = .pointer (some ⟨t.bt, 0, none⟩) := dep 3 (by omega) (by kernel_rfl)
           have q0 := hIW.tb 0 _ rfl; have q1 := hIW.tb 1 _ rfl; have q2 := hIW.tb 2 _ rfl; have q3 := hIW.tb 3 _ rfl
           exact .inl ⟨.agg #[.int .i64 t.p, .int .i64 t.c, .int .i64 t.h, .int .i64 t.s], W, by simp only [execOp, Act.eval, d1]; go_simp, Frm.refl _ _, hIW, rfl⟩
         · exact .inl ⟨.slice A t.h ca, W, by simp only [execOp, Act.eval, e1]; go_simp, Frm.refl _ _, hIW, rfl⟩
         · exact .inl ⟨.slice (some ⟨rb, ro, none⟩) (rollsN t.s).length cr, W, by simp only [execOp, Act.eval, e9]; go_simp, Frm.refl _ _, hIW, rfl⟩
         · exact .inl ⟨.int .i64 (k : Int), W, by simp only [execOp, Act.eval, e11]; go_simp, Frm.refl _ _, hIW, rfl⟩
         · have d1 : a'.tmps.getD 33 undef = .slice (some ⟨rb, ro, none⟩) (rollsN t.s).length cr := dep 6 (by omega) (by kernel_rfl)
           have d2 : a'.tmps.getD 34 undef = .int .i64 (k : Int) := dep 7 (by omega) (by kernel_rfl)
           exact .inl ⟨.pointer (some ⟨rb, ro + k * 2, none⟩), W, by simp only [execOp, Act.eval, d1, d2]; go_simp, Frm.refl _ _, hIW, rfl⟩
         · have d1 : a'.tmps.getD 35 undef = .pointer (some ⟨rb, ro + k * 2, none⟩) := dep 8 (by omega) (by kernel_rfl)
           have q1 := hW.cell' HQ1.out hrbS.out; have q2 := hW.cell' HQ2'.out hrbS.out
           exact .inl ⟨.agg #[.int .i64 (a : Int), .int .i64 (b : Int)], W, by simp only [execOp, Act.eval, d1]; go_simp, Frm.refl _ _, hIW, rfl⟩
         · have d1 : a'.tmps.getD 31 undef = .agg #[.int .i64 t.p, .int .i64 t.c, .int .i64 t.h, .int .i64 t.s] := dep 4 (by omega) (by kernel_rfl)
           have d2 : a'.tmps.getD 32 undef = .slice A t.h ca := dep 5 (by omega) (by kernel_rfl)
           have d3 : a'.tmps.getD 36 undef = .agg #[.int .i64 (a : Int), .int .i64 (b : Int)] := dep 9 (by omega) (by kernel_rfl)
           refine .inr ⟨91, #[.agg #[.int .i64 t.p, .int .i64 t.c, .int .i64 t.h, .int .i64 t.s], .slice A t.h ca, .agg #[.int .i64 (a : Int), .int .i64 (b : Int)]], by simp only [execOp, Act.eval, d1, d2, d3]; go_simp, ?_⟩
           refine (HRES.out W (HAr.out.frm hW) (fun x hx h => by have := hlowr.out x h; have := hW.size; omega)).mono ?_
           rintro e W' ⟨b', off, n', c', rfl, hpl, hc, hb'⟩
           exact ⟨_, rfl, Frm.of_below' _ hb', hIW.below hb', b', off, n', c', rfl, hpl, hc⟩
         · exact .inl ⟨.slice B t.h cb, W, by simp only [execOp, Act.eval, e2]; go_simp, Frm.refl _ _, hIW, rfl⟩
         · have d1 : a'.tmps.getD 27 undef = .pointer (some ⟨t.bt, 0, none⟩) := dep 0 (by omega) (by kernel_rfl)
           obtain ⟨b', off, n', c', d2, hpl, hc⟩ : ∃ b' off n c, a'.tmps.getD 37 undef = .slice (some ⟨b', off, none⟩) n c ∧ PL t.S W (some ⟨b', off, none⟩) n (resultsL own a b) ∧ n ≤ c := dep 10 (by omega) (by kernel_rfl)
           have d3 : a'.tmps.getD 38 undef = .slice B t.h cb := dep 11 (by omega) (by kernel_rfl)
           refine .inr ⟨92, #[.pointer (some ⟨t.bt, 0, none⟩), .slice (some ⟨b', off, none⟩) n' c', .slice B t.h cb], by simp only [execOp, Act.eval, d1, d2, d3]; go_simp, ?_⟩
           refine (HBST.out (some ⟨b', off, none⟩) n' c' W hIW hpl (HBr.out.frm hW)).mono ?_
           rintro e W' ⟨hI', hf', rfl⟩
           exact ⟨_, rfl, hf', hI', rfl⟩
         · have d1 : a'.tmps.getD 39 undef = .tuple #[.int .i64 (at' : Int), .agg #[.int .i64 xn, .int .i64 (xd : Int)], .bool true] := dep 12 (by omega) (by kernel_rfl)
           exact .inl ⟨.tuple #[.int .i64 (at' : Int), .agg #[.int .i64 xn, .int .i64 (xd : Int)], .bool true], W, by simp only [execOp, Act.eval, d1]; go_simp, Frm.refl _ _, hIW, rfl⟩
         · have d1 : a'.tmps.getD 26 undef = .tuple #[.int .i64 (at' : Int), .agg #[.int .i64 xn, .int .i64 (xd : Int)], .bool true] := dep 13 (by omega) (by kernel_rfl)
           exact .inl ⟨.int .i64 (at' : Int), W, by simp only [execOp, Act.eval, d1]; go_simp, Frm.refl _ _, hIW, rfl⟩
         · refine .inl ⟨.pointer (some ⟨W.heap.size, 0, none⟩), W.alloc (.cells #[.int .i64 0, .int .i64 0] 35), by kernel_rfl, (Frm.refl _ _).alloc _, hIW.alloc _, W.heap.size, rfl, hW.size, ?_, ?_, ?_, ?_⟩ <;> simp [go_sem]
       intro v W hW hIW hg
       have g0 : v 0 = .pointer (some ⟨t.bt, 0, none⟩) := hg 0 (by omega)
       have g1 : v 1 = .pointer (some ⟨t.bt, 0, none⟩) := hg 1 (by omega)
       have g2 : v 2 = .pointer (some ⟨t.bt, 0, none⟩) := hg 2 (by omega)
       have g3 : v 3 = .pointer (some ⟨t.bt, 0, none⟩) := hg 3 (by omega)
       have g4 : v 4 = .agg #[.int .i64 t.p, .int .i64 t.c, .int .i64 t.h, .int .i64 t.s] := hg 4 (by omega)
       have g5 : v 5 = .slice A t.h ca := hg 5 (by omega)
       have g6 : v 6 = .slice (some ⟨rb, ro, none⟩) (rollsN t.s).length cr := hg 6 (by omega)
       have g7 : v 7 = .int .i64 (k : Int) := hg 7 (by omega)
       have g8 : v 8 = .pointer (some ⟨rb, ro + k * 2, none⟩) := hg 8 (by omega)
       have g9 : v 9 = .agg #[.int .i64 (a : Int), .int .i64 (b : Int)] := hg 9 (by omega)
       obtain ⟨_, _, _, _, g10, _, _⟩ : ∃ b' off n c, v 10 = .slice (some ⟨b', off, none⟩) n c ∧ PL t.S W (some ⟨b', off, none⟩) n (resultsL own a b) ∧ n ≤ c := hg 10 (by omega)
       have g11 : v 11 = .slice B t.h cb := hg 11 (by omega)
       have g12 : v 12 = .tuple #[.int .i64 (at' : Int), .agg #[.int .i64 xn, .int .i64 (xd : Int)], .bool true] := hg 12 (by omega)
       have g13 : v 13 = .tuple #[.int .i64 (at' : Int), .agg #[.int .i64 xn, .int .i64 (xd : Int)], .bool true] := hg 13 (by omega)
       have g14 : v 14 = .int .i64 (at' : Int) := hg 14 (by omega)
       have g15 : v 15 = .agg #[.int .i64 xn, .int .i64 (xd : Int)] := hg 15 (by omega)
       have g16 : v 16 = .bool true := hg 16 (by omega)
       obtain ⟨g, g17, gl, y0, y1, y2, y3⟩ : ∃ g, v 17 = .pointer (some ⟨g, 0, none⟩) ∧ wr.heap.size ≤ g ∧ W.cell? ⟨g, 0, none⟩ = some (.int .i64 0) ∧ W.cell? ⟨g, 1, none⟩ = some (.int .i64 0) ∧ W.frozen? ⟨g, 0, none⟩ = false ∧ W.frozen? ⟨g, 1, none⟩ = false := hg 17 (by omega)
       simp only [List.drop_succ_cons, List.drop_zero, putV, c6d, g0, g1, g2, g3, g4, g5, g6, g7, g8, g9, g10, g11, g12, g13, g14, g15, g16, g17, Act.put]
       clear g0 g1 g2 g3 g4 g5 g6 g7 g8 g9 g10 g11 g12 g13 g14 g15 g16 g17 hg; have HW := Lib.hid hW; have HIw := Lib.hid hIW; have yz := World.block_lt_of_cell? W _ y0; clear hW hIW
       have hgS : ¬ t.S g := fun h => by have := hlowr.out g h; omega
       have hgB : t.bt ≠ g := fun h => by have := HI.out.ltB; omega
       have HVL := Lib.hid fun (j : Nat) (hj : vx.ownBlock = some j) => World.ownsRow.lt HO.out j hj
       have hzW : wr.heap.size ≤ W.heap.size := HW.out.size
       have HV : Hid (∀ o : Obj, Frm t.S W2 (((W.setCell ⟨g, 0, none⟩ (.int .i64 xn)).setCell ⟨g, 1, none⟩ (.int .i64 (xd : Int))).alloc o) ∧ TabI t (((W.setCell ⟨g, 0, none⟩ (.int .i64 xn)).setCell ⟨g, 1, none⟩ (.int .i64 (xd : Int))).alloc o)) := fun o =>
         ⟨((((HFw.out.trans HW.out).ownSet (by omega) _).ownSet (by omega) _).alloc o), ((HIw.out.stored _ hgS hgB).stored _ hgS hgB).alloc o⟩
       have HROW : Hid ((((W.setCell ⟨g, 0, none⟩ (.int .i64 xn)).setCell ⟨g, 1, none⟩ (.int .i64 (xd : Int))).alloc (.cells #[.int .i64 xn, .int .i64 (xd : Int)] 35)).ownsRow W2.heap.size 35 2 vx xs.length (exC xs)) := by
         refine row_alloc ?_ _
         refine Frm.row (S := fun x => x = g) ((Frm.set _ _ _ _).trans (Frm.set _ _ _ _)) (HW.out.row HO.out fun j hj h => ?_) (fun j hj h => ?_)
         · have := (HVL.out j hj).1; have := HLOW.out j h; omega
         · have := (HVL.out j hj).2; omega
       have hTN : Hid (∀ j u, [Value.int .i64 xn, .int .i64 (xd : Int)][j]? = some u → (((W.setCell ⟨g, 0, none⟩ (.int .i64 xn)).setCell ⟨g, 1, none⟩ (.int .i64 (xd : Int))).alloc (.cells #[.int .i64 xn, .int .i64 (xd : Int)] 35)).cell? ((⟨W.heap.size, 0, none⟩ : Addr).add j) = some u) := by
         have h := two_new ((W.setCell ⟨g, 0, none⟩ (.int .i64 xn)).setCell ⟨g, 1, none⟩ (.int .i64 (xd : Int))) xn (xd : Int) 35
         rw [show ((W.setCell ⟨g, 0, none⟩ (.int .i64 xn)).setCell ⟨g, 1, none⟩ (.int .i64 (xd : Int))).heap.size = W.heap.size by simp] at h
         exact h
       clear HO HW HIw HI
       go_wp2_with (at_builtin; (refine wpList_append_own_at _ rfl _ _ 29 rfl W2.heap.size 35 i0 (.agg #[.int .i64 0, .int .i64 0]) 2 16 Tryz.underlying29 hi hz0 hz1 hz2 rfl (by decide) _ _ _ rfl HROW.out ⟨W.heap.size, 0, none⟩ 1 1 [.int .i64 xn, .int .i64 (xd : Int)] rfl rfl hTN.out (two_cells _ _) (by have := HXK.out; unfold maxLen; omega) (by have := HXK.out; omega) (by simp; omega) ?_); intro v' w4 hown hgrow _ hat)
       have hgO : ∀ x, some x = vx.ownBlock → W2.heap.size ≤ x := fun x hx => (HVL.out x hx.symm).1
       have HFw4 : Hid (Frm t.S W2 w4) := (HV.out _).1.outs (Frm.of_grown hgrow) hgO
       have HI4 : Hid (TabI t w4) := (HV.out _).2.frm (Frm.of_grown hgrow) (fun x hx h => by have := hgO x hx; have := HLOW.out x h; omega) (fun h => by have := hgO _ h; have := HI2.out.ltB; omega)
       have HO4 : Hid (OwnE w4 W2.heap.size v' (xs ++ [⟨xn, xd⟩])) := by
         unfold Hid OwnE; rw [exC_snoc, List.length_append]
         exact hown
       have HL4 : Hid ((xs ++ [(⟨xn, xd⟩ : E)]).length = k + 1) := by unfold Hid; rw [List.length_append, HXK.out]; rfl
       clear hown hgrow hat HROW HV hgO
       go_wp2_with (fail)
       go_roundw
       case rel => exact ⟨k + 1, xs ++ [⟨xn, xd⟩], by omega, by go_num, ⟨HXS.out, HL4.out⟩, ⟨_, rfl, HO4⟩, HI4, HFw4⟩
       case measure => (simp [intOf]) <;> omega
   · have hke : k = (rollsN t.s).length := by omega
     have HALL : Hid (allS (rollE t.s own other) (rollsN t.s) = some xs) := by
       have h := hxs.out.1
       rwa [List.take_of_length_le (by omega)] at h
     clear hxs
     go_wp2_with (fail)
     go_ret2
     exact RetCh.yes HALL.out HI.out (HF2.out.trans HFw.out) HO.out hzW2
end Go.Proofs.YtkaiilmgemaljaaGreat

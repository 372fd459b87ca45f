/- Plain facts on drawn races: they are short, and their luck has the mean 0. There are no conditions beyond those that each states. -/
import Derived.Test.YtkaiilmgemaljaaGreatPU3
import Derived.Test.YtkaiilmgemaljaaGreatPD7
import Derived.Test.YtkaiilmgemaljaaGreatPN56
import Derived.Test.YtkaiilmgemaljaaGreatPN62
namespace Go.Proofs.YtkaiilmgemaljaaGreat
set_option linter.unusedVariables false
set_option linter.unusedSimpArgs false
open Go.RowKit Ps Ra Ex

def Small (v : Int × Int × Int × Int) : Prop := ((v.2.1 ≤ 3 ∧ v.2.2.1 ≤ 3) ∨ 16 ≤ v.2.1 ∨ (v.2.1 = 15 ∧ v.2.2.1 = 6)) ∧ v.2.2.2 ≤ 3
theorem dvF_small (bs : List Int) (q : Int × Nat) : (((dvF bs q).1.2.1 ≤ 3 ∧ (dvF bs q).1.2.2.1 ≤ 3) ∨ 16 ≤ (dvF bs q).1.2.1 ∨ ((dvF bs q).1.2.1 = 15 ∧ (dvF bs q).1.2.2.1 = 6)) := by
 have h1 := nx_bd bs q 3; have h2 := nx_bd bs (ns bs q 3) 3; have h3 := nx_bd bs (ns bs (ns bs q 3) 3) 3; have h5 := nx_bd bs (ns bs (ns bs (ns bs (ns bs q 3) 3) 3) 24) 2; unfold dvF
 dsimp only
 split
 · dsimp only; omega
 · split
   · dsimp only; omega
   · split
     · dsimp only; omega
     · dsimp only; omega
theorem drawn_small (bs : List Int) : Small (drawn12 bs).1 := by
 have h := dvF_small bs (seedK bs 64, 0); have h2 := nx_bd bs (dvF bs (seedK bs 64, 0)).2 2
 refine ⟨h, ?_⟩
 show minS bs (dvF bs (seedK bs 64, 0)).2 (dvF bs (seedK bs 64, 0)).1.2.2.2 ≤ 3
 unfold minS
 omega
theorem wys_615 : ¬ wys 6 15 ≤ 500 := by decide +kernel
theorem race_small {p c h s : Int} {own other : List Int} (hsm : Small (p, c, h, s)) (H : codeT p c h s [own, other] = 0) : ∃ c' h' s' : Nat, c = c' ∧ h = h' ∧ s = s' ∧ isVar p c' h' s' = true ∧ PosP h' c' own ∧ PosP h' c' other ∧ 1 ≤ sq s' ∧ sq s' ≤ 36 ∧ pw (sq s') 11 ≤ maxScale ∧ turns own ≤ 5 ∧ turns other ≤ 5 := by
 obtain ⟨hv, h1, h2, h3⟩ := codeT_ok H; have hvv := isVar_yes hv
 obtain ⟨c', rfl⟩ : ∃ c' : Nat, c = c' := ⟨c.toNat, by omega⟩
 obtain ⟨h', rfl⟩ : ∃ h' : Nat, h = h' := ⟨h.toNat, by omega⟩
 obtain ⟨s', rfl⟩ : ∃ s' : Nat, s = s' := ⟨s.toNat, by omega⟩
 rw [Int.toNat_natCast, Int.toNat_natCast] at h3
 have hq := sq_bd (s := s') (by omega) (by omega)
 obtain ⟨hs1, hs2⟩ := hsm
 simp only at hs1 hs2
 have hch : c' ≤ 3 ∧ h' ≤ 3 := by
   rcases hs1 with hs1 | hs1 | hs1
   · omega
   · omega
   · obtain ⟨rfl, rfl⟩ : c' = 15 ∧ h' = 6 := by omega
     exact absurd h3 wys_615
 have hp1 := posB_pos h1; have hp2 := posB_pos h2
 have hpip : ∀ q, PosP h' c' q → turns q ≤ 5 := by
   intro q hq
   have h9 := pips_hi hq
   have h10 : (h' : Int) * c' ≤ 3 * 3 := Int.mul_le_mul (by omega) (by omega) (by omega) (by omega)
   unfold turns
   omega
 refine ⟨c', h', s', rfl, rfl, rfl, hv, hp1, hp2, hq.1, hq.2.1, ?_, hpip _ hp1, hpip _ hp2⟩
 have hs9 : sq s' ≤ 9 := by
   have h10 : (s' : Int) * s' ≤ 3 * 3 := Int.mul_le_mul (by omega) (by omega) (by omega) (by omega)
   unfold sq
   omega
 exact Int.le_trans (pw_base_mono hq.1 hs9 11) (by decide)
theorem codeW_both {p c h s : Int} {own other : List Int} (H : codeW p c h s own other true = 0) : codeT p c h s [own, other] = 0 ∧ own.sum ≠ 0 ∧ other.sum ≠ 0 ∧ codeW p c h s own other false = 0 := by
 have hT := codeW_T H; unfold codeW at H ⊢; rw [if_pos hT] at H; rw [if_pos hT]
 split at H
 · cases H
 · rename_i hn
   refine ⟨hT, fun h => hn (.inr ⟨rfl, .inl h⟩), fun h => hn (.inr ⟨rfl, .inr h⟩), ?_⟩
   rw [if_neg]
   rintro (⟨h, _⟩ | ⟨h, _⟩)
   · exact hn (.inr ⟨rfl, .inl h⟩)
   · cases h
theorem luck_facts {p c h s : Int} {own other : List Int} (hsm : Small (p, c, h, s)) (H : codeW p c h s own other true = 0) :
   ∃ (s' : Nat) (ys ls : List E) (x : E), s = s' ∧ isVar p c h s' = true ∧ chanR p c h s' own other = (ys, 0) ∧ winR p c h s' own other = (x.num, (x.depth : Int), 0) ∧ ys.length = (rollsN s').length ∧ (∀ y ∈ ys, Val (sq s') y) ∧ meanE (sq s') (rollsN s') ys = some x ∧
     ls.length = ys.length ∧ (∀ l ∈ ls, Val (sq s') l) ∧ meanE (sq s') (rollsN s') ls = some zeroE' ∧ ∀ i, i < ys.length → luckR p c h s' (((rollsN s').getD i (0, 0)).1 : Nat) (((rollsN s').getD i (0, 0)).2 : Nat) own other = ((ls.getD i zeroE').num, ((ls.getD i zeroE').depth : Int), 0) := by
 obtain ⟨hT, h0, h1, hF⟩ := codeW_both H; obtain ⟨c', h', s', rfl, rfl, rfl, hv, hp1, hp2, hB, hB2, hD, ht1, ht2⟩ := race_small hsm hT
 have hD' : pw (sq s') 10 ≤ maxScale := Int.le_trans (pw_mono hB (by omega)) hD
 obtain ⟨x, hx, hxd⟩ := win_ok hB hB2 hD' hp1 hp2 (by omega)
 have hbest : ∀ r ∈ rollsN s', ∃ t, best s' own other r = some t ∧ t.2.2.depth ≤ 10 := by
   intro r hr
   obtain ⟨r1, r2, r3⟩ := mem_rollsN.1 hr
   obtain ⟨t, ht, hd⟩ := best_ok hB hB2 hD' hp1 hp2 h0 (by omega) (r := r) (by omega) r1
   exact ⟨t, ht, by omega⟩
 obtain ⟨ys, hys⟩ := allS_ok (g := fun r => (best s' own other r).map fun t => t.2.2) (l := rollsN s') fun r hr => by
   obtain ⟨t, ht, _⟩ := hbest r hr
   exact ⟨t.2.2, by rw [ht]; rfl⟩
 have hyl := allS_length hys
 have hmean : meanE (sq s') (rollsN s') ys = some x := by
   have := win_eq hp1 hp2 h0 h1 (s := s'); rw [hx, hys, Option.bind_some] at this
   exact this.symm
 have hym : ∀ y ∈ ys, ∃ t, ∃ r ∈ rollsN s', best s' own other r = some t ∧ y = t.2.2 ∧ y.depth ≤ 10 := by
   intro y hy
   obtain ⟨r, hr, e⟩ := allS_mem hys y hy; obtain ⟨t, ht, hd⟩ := hbest r hr
   have e' : (best s' own other r).map (fun t => t.2.2) = some y := e
   rw [ht] at e'
   have : t.2.2 = y := by simpa using e'
   exact ⟨t, r, hr, ht, this.symm, by rw [← this]; exact hd⟩
 have hyv : ∀ y ∈ ys, Val (sq s') y := by
   intro y hy
   obtain ⟨t, r, hr, ht, rfl, _⟩ := hym y hy
   rcases bestS_mem ht with e | ⟨q, _, e⟩
   · rw [e]; exact zero_val
   · exact sec_val hB e
 have hyu : ∀ y ∈ ys, y.depth ≤ 10 ∧ Uni1 (sq s') y := by
   intro y hy
   obtain ⟨t, r, hr, ht, rfl, hd⟩ := hym y hy
   exact ⟨hd, best_uni hB ht⟩
 have hxv := win_val hB hx; have hxu := win_uni hB hx
 have hsub : ∀ y ∈ ys, ∃ l, addE (sq s') y (negE x) = some l := fun y hy => sub_ok hB (hyv y hy) hxv (hyu y hy).2 hxu
 have hls : ∀ i, i < ys.length → addE (sq s') (ys.getD i zeroE') (negE x) = some ((ys.map fun y => (addE (sq s') y (negE x)).getD zeroE').getD i zeroE') := by
   intro i hi
   obtain ⟨l, hl⟩ := hsub _ (getD_mem' ys zeroE' hi)
   have e : (ys.map fun y => (addE (sq s') y (negE x)).getD zeroE').getD i zeroE' = (addE (sq s') (ys.getD i zeroE') (negE x)).getD zeroE' := by
     simp [List.getD, hi]
   rw [e, hl]; rfl
 refine ⟨s', ys, ys.map fun y => (addE (sq s') y (negE x)).getD zeroE', x, rfl, hv, ?_, ?_, hyl, hyv, hmean, by simp, ?_, ?_, ?_⟩
 · unfold chanR
   rw [if_pos H, Int.toNat_natCast]; have : allS (rollE s' own other) (rollsN s') = some ys := hys; rw [this]
 · unfold winR
   rw [if_pos hF, Int.toNat_natCast, hx]; rfl
 · intro l hl
   obtain ⟨y, hy, rfl⟩ := List.mem_map.1 hl; obtain ⟨l', hl'⟩ := hsub y hy; rw [hl']
   exact addE_val hB hl'
 · exact luck_zero hB hB2 (M := 10) hD hyl hmean (by omega) hyu (by simp) hls
 · intro i hi
   have hg := allS_get hys i (by omega)
   have hr := mem_rollsN.1 (getD_mem' (rollsN s') (0, 0) (k := i) (by omega))
   have hk : codeK p c' h' s' (((rollsN s').getD i (0, 0)).1 : Nat) (((rollsN s').getD i (0, 0)).2 : Nat) own other true = 0 := by
     rw [codeK_W (by unfold rollB; exact decide_eq_true (by omega))]; exact H
   obtain ⟨t, ht, _⟩ := hbest _ (getD_mem' (rollsN s') (0, 0) (k := i) (by omega))
   have hg' : (best s' own other ((rollsN s').getD i (0, 0))).map (fun t => t.2.2) = some (ys.getD i zeroE') := hg
   rw [ht] at hg'
   have hty : t.2.2 = ys.getD i zeroE' := by simpa using hg'
   unfold luckR; rw [if_pos hk, Int.toNat_natCast, Int.toNat_natCast, Int.toNat_natCast]; unfold luckE; have ht' : bestS (sq s') (sec s' other) (resultsL own ((rollsN s').getD i (0, 0)).1 ((rollsN s').getD i (0, 0)).2) = some (t.1, t.2.1, t.2.2) := ht; rw [ht', hx]
   show numR (minE (sq s') t.2.2 x) = _
   unfold minE; rw [hty, hls i hi]
   rfl
end Go.Proofs.YtkaiilmgemaljaaGreat

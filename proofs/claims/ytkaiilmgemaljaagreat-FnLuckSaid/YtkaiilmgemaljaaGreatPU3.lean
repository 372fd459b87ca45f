/- Plain facts on short races: every win chance is a number; the luck of all rolls has the mean 0. No program is in sight; there are no conditions beyond those that each states. -/
import Derived.Test.YtkaiilmgemaljaaGreatPU2
namespace Go.Proofs.YtkaiilmgemaljaaGreat.Ra
set_option linter.unusedVariables false
set_option linter.unusedSimpArgs false
open Go.Proofs.YtkaiilmgemaljaaGreat.Ex Go.Proofs.YtkaiilmgemaljaaGreat.Ps

def turns (p : List Int) : Nat := ((pips p + 1) / 2).toNat
theorem pips_zero {p : List Int} (h : ∀ x ∈ p, 0 ≤ x) (h0 : p.sum = 0) : pips p = 0 := wsum_zero _ p 0 h h0
theorem wsum_ge (f g : Nat → Int) : ∀ (p : List Int) (k : Nat), (∀ x ∈ p, 0 ≤ x) → (∀ i, k ≤ i → i < k + p.length → f i ≤ g i) → wsum f k p ≤ wsum g k p
 | [], _, _, _ => Int.le_refl _
 | a :: p, k, h, hf => by
   have := wsum_ge f g p (k + 1) (fun x hx => h x (by simp [hx])) (fun i h1 h2 => hf i (by omega) (by simp at h2 ⊢; omega))
   have h1 := hf k (Nat.le_refl _) (by simp)
   have h2 := Int.mul_le_mul_of_nonneg_right h1 (h a (by simp))
   show f k * a + _ ≤ g k * a + _
   omega
theorem wsum_const (m : Int) : ∀ (p : List Int) (k : Nat), wsum (fun _ => m) k p = m * p.sum
 | [], _ => by show (0 : Int) = m * 0; simp
 | a :: p, k => by
   show m * a + _ = m * (a + p.sum)
   rw [wsum_const m p (k + 1), Int.mul_add]
theorem pips_lo {p : List Int} (h : ∀ x ∈ p, 0 ≤ x) : p.sum ≤ pips p := by
 have := wsum_ge (fun _ => 1) (fun i => (i : Int) + 1) p 0 h (fun i _ _ => by omega)
 rw [wsum_const, Int.one_mul] at this
 exact this
theorem pips_hi {h c : Nat} {p : List Int} (hp : PosP h c p) : pips p ≤ (h : Int) * c := by
 have := wsum_ge (fun i => (i : Int) + 1) (fun _ => (h : Int)) p 0 hp.2.1 (fun i _ hi => by have := hp.1; omega)
 rw [wsum_const] at this
 exact Int.le_trans this (Int.mul_le_mul_of_nonneg_left hp.2.2 (by omega))
theorem reach_two_pips {h c : Nat} {d1 d2 : Nat} {ds : List Nat} {p : List Int} (hd : ∀ d ∈ d1 :: d2 :: ds, 1 ≤ d) (hp : PosP h c p) (h0 : p.sum ≠ 0) : ∀ q ∈ reach (d1 :: d2 :: ds) p, pips q + 2 ≤ pips p ∨ q.sum = 0 := by
 intro q hq
 rw [reach_cons, if_neg h0] at hq; obtain ⟨m, hm, hqm⟩ := List.mem_flatMap.1 hq
 obtain ⟨h1, h2, _⟩ := step_pos (hd d1 (by simp)) hp hm
 by_cases hm0 : m.sum = 0
 · rw [reach_zero _ hm0, List.mem_singleton] at hqm
   subst hqm
   exact .inr hm0
 · have := (reach_pos (fun d hd' => hd d (by simp at hd' ⊢; exact .inr hd')) h1 q hqm).2.2 (by simp) hm0
   exact .inl (by omega)
theorem results_turns {h c : Nat} {a b : Nat} {p : List Int} (ha : 1 ≤ a) (hb : 1 ≤ b) (hp : PosP h c p) (h0 : p.sum ≠ 0) : ∀ q ∈ resultsL p a b, turns q + 1 ≤ turns p := by
 intro q hq
 have hq1 := (results_pos ha hb hp q hq).1; have hs := sum_nn hp.2.1; have hlo := pips_lo hp.2.1
 have key : pips q + 2 ≤ pips p ∨ q.sum = 0 := by
   obtain ⟨ds, hds, hq⟩ := (results_mem ha hb hp q).1 hq; unfold dice at hds
   split at hds
   · rw [List.mem_singleton] at hds
     subst hds
     exact reach_two_pips (by simp; omega) hp h0 q hq
   · simp only [List.mem_cons, List.not_mem_nil, or_false] at hds
     rcases hds with rfl | rfl
     · exact reach_two_pips (by simp; omega) hp h0 q hq
     · exact reach_two_pips (by simp; omega) hp h0 q hq
 have hqn := pips_nonneg hq1.2.1; unfold turns
 rcases key with k | k
 · omega
 · have := pips_zero hq1.2.1 k
   omega
theorem val_ok {h c s : Nat} (hB : 1 ≤ sq s) (hB2 : sq s ≤ 36) {D : Nat} (hD : pw (sq s) D ≤ maxScale) : ∀ (f : Nat) {own other : List Int}, PosP h c own → PosP h c other → pips own + pips other < f → turns own + turns other ≤ D → ∃ e, val s f own other = some e ∧ e.depth ≤ turns own + turns other
 | 0, own, other, ho, ht, h1, _ => by have := pips_nonneg ho.2.1; have := pips_nonneg ht.2.1; omega
 | f + 1, own, other, ho, ht, h1, h2 => by
   unfold val
   by_cases h0 : own.sum = 0
   · rw [if_pos h0]; exact ⟨_, rfl, Nat.zero_le _⟩
   rw [if_neg h0]
   by_cases h3 : other.sum = 0
   · rw [if_pos h3]; exact ⟨_, rfl, Nat.zero_le _⟩
   rw [if_neg h3]
   have key : ∀ r ∈ rollsN s, ∀ q ∈ resultsL own r.1 r.2, ∃ x, (val s f other q).bind (oneM (s * s)) = some x ∧ x.depth + 1 ≤ turns own + turns other := by
     intro r hr q hq
     obtain ⟨r1, r2, r3⟩ := mem_rollsN.1 hr
     obtain ⟨q1, _, q3⟩ := results_pos (by omega) r1 ho q hq
     have hq3 := q3 h0
     have ht3 := results_turns (by omega) r1 ho h0 q hq
     obtain ⟨e, he, hed⟩ := val_ok hB hB2 hD f ht q1 (by omega) (by omega)
     obtain ⟨z, hz⟩ := oneM_ok hB (val_val hB f he) (val_uni hB f he)
     refine ⟨z, by rw [he, Option.bind_some]; exact hz, ?_⟩
     have := (oneM_av (M := e.depth) hB hz (Nat.le_refl _)).1
     omega
   have hpo : 0 < pips own := by have := pips_lo ho.2.1; have := sum_nn ho.2.1; omega
   have hto : 1 ≤ turns own := by unfold turns; omega
   obtain ⟨M, hM⟩ : ∃ M, turns own + turns other = M + 1 := ⟨turns own + turns other - 1, by omega⟩
   have hbest : ∀ r ∈ rollsN s, ∃ x, ((bestS (s * s) (fun q => (val s f other q).bind (oneM (s * s))) (resultsL own r.1 r.2)).map fun t => t.2.2) = some x ∧ x.depth ≤ M ∧ Uni1 (sq s) x := by
     intro r hr
     obtain ⟨t, ht'⟩ := bestS_ok (B := s * s) (f := fun q => (val s f other q).bind (oneM (s * s))) (l := resultsL own r.1 r.2) fun q hq => by
       obtain ⟨x, hx, _⟩ := key r hr q hq
       exact ⟨x, hx⟩
     refine ⟨t.2.2, by rw [ht']; rfl, ?_⟩
     rcases bestS_mem ht' with e | ⟨q, hq, e⟩
     · rw [e]; exact ⟨Nat.zero_le _, uni_zero'⟩
     · obtain ⟨x, hx, hd⟩ := key r hr q hq
       have e' : (val s f other q).bind (oneM (s * s)) = some t.2.2 := e; rw [hx] at e'; injection e' with e'; rw [← e']
       refine ⟨by omega, ?_⟩
       cases hv : val s f other q with
       | none => rw [hv] at hx; cases hx
       | some z => rw [hv] at hx; exact uni_oneM hB hx (val_uni hB f hv)
   obtain ⟨xs, hxs⟩ := allS_ok fun r hr => (hbest r hr).imp fun x hx => hx.1
   rw [hxs, Option.bind_some, hM]
   refine mean_ok hB hB2 (allS_length hxs) (fun y hy => ?_) (by rw [← hM]; exact Int.le_trans (pw_mono hB h2) hD)
   obtain ⟨r, hr, e⟩ := allS_mem hxs y hy; obtain ⟨x, hx, hd, hu⟩ := hbest r hr
   have hyx : y = x := by rw [hx] at e; injection e with e; exact e.symm
   rw [hyx]; have := (uni_av hB hd).1 hu; have := pw_pos hB M
   exact ⟨hd, by omega, by omega⟩
theorem win_ok {h c s : Nat} (hB : 1 ≤ sq s) (hB2 : sq s ≤ 36) {D : Nat} (hD : pw (sq s) D ≤ maxScale) {own other : List Int} (ho : PosP h c own) (ht : PosP h c other) (h2 : turns own + turns other ≤ D) : ∃ e, win s own other = some e ∧ e.depth ≤ turns own + turns other :=
 val_ok hB hB2 hD _ ho ht (by have := pips_nonneg ho.2.1; have := pips_nonneg ht.2.1; unfold fuel; omega) h2
theorem best_ok {h c s : Nat} (hB : 1 ≤ sq s) (hB2 : sq s ≤ 36) {D : Nat} (hD : pw (sq s) D ≤ maxScale) {own other : List Int} (ho : PosP h c own) (ht : PosP h c other) (h0 : own.sum ≠ 0) (h2 : turns own + turns other ≤ D) {r : Nat × Nat} (h11 : 1 ≤ r.1) (h12 : 1 ≤ r.2) : ∃ t, best s own other r = some t ∧ t.2.2.depth + 1 ≤ turns own + turns other := by
 have hpo : 0 < pips own := by have := pips_lo ho.2.1; have := sum_nn ho.2.1; omega
 have hto : 1 ≤ turns own := by unfold turns; omega
 have key : ∀ q ∈ resultsL own r.1 r.2, ∃ x, sec s other q = some x ∧ x.depth + 1 ≤ turns own + turns other := by
   intro q hq
   obtain ⟨q1, _, _⟩ := results_pos h11 h12 ho q hq; have ht3 := results_turns h11 h12 ho h0 q hq
   obtain ⟨e, he, hed⟩ := win_ok hB hB2 hD ht q1 (by omega)
   obtain ⟨z, hz⟩ := oneM_ok hB (win_val hB he) (win_uni hB he)
   refine ⟨z, by unfold sec; rw [he, Option.bind_some]; exact hz, ?_⟩
   have := (oneM_av (M := e.depth) hB hz (Nat.le_refl _)).1
   omega
 obtain ⟨t, ht'⟩ := bestS_ok (B := s * s) (f := sec s other) (l := resultsL own r.1 r.2) fun q hq => (key q hq).imp fun x hx => hx.1
 refine ⟨t, ht', ?_⟩
 rcases bestS_mem ht' with e | ⟨q, hq, e⟩
 · rw [e]; show 0 + 1 ≤ _; omega
 · obtain ⟨x, hx, hd⟩ := key q hq
   rw [hx] at e; injection e with e
   rw [← e]; exact hd

/-! ### luck -/
theorem luck_zero {s : Nat} (hB : 1 ≤ sq s) (hB2 : sq s ≤ 36) {ys ls : List E} {x : E} {M : Nat} (hM : pw (sq s) (M + 1) ≤ maxScale) (hl : ys.length = (rollsN s).length) (hx : meanE (sq s) (rollsN s) ys = some x) (hxM : x.depth ≤ M) (hy : ∀ y ∈ ys, y.depth ≤ M ∧ Uni1 (sq s) y)
   (hll : ls.length = ys.length) (hls : ∀ i, i < ys.length → addE (sq s) (ys.getD i zeroE') (negE x) = some (ls.getD i zeroE')) : meanE (sq s) (rollsN s) ls = some zeroE' := by
 have hux := mean_uni hB hx hl fun y h => (hy y h).2
 have hax := (uni_av hB hxM).1 hux; have hp := pw_pos hB M
 have hlv : ∀ i, i < ys.length → (ls.getD i zeroE').depth ≤ M ∧ av (sq s) M (ls.getD i zeroE') = av (sq s) M (ys.getD i zeroE') - av (sq s) M x := by
   intro i hi
   have hyi := hy _ (getD_mem' ys zeroE' hi); obtain ⟨k1, k2⟩ := add_av (M := M) hB (hls i hi) hyi.1 hxM; rw [neg_av] at k2
   exact ⟨Nat.le_trans k1 (by show max _ x.depth ≤ M; omega), by omega⟩
 have hmem : ∀ l ∈ ls, l.depth ≤ M ∧ -(pw (sq s) M) ≤ av (sq s) M l ∧ av (sq s) M l ≤ pw (sq s) M := by
   intro l hl'
   obtain ⟨i, hi, rfl⟩ := List.getElem_of_mem hl'
   have e : ls[i] = ls.getD i zeroE' := by simp [List.getD, hi]
   rw [e]
   obtain ⟨k1, k2⟩ := hlv i (by omega)
   have hyi := (hy _ (getD_mem' ys zeroE' (show i < ys.length by omega)))
   have := (uni_av hB hyi.1).1 hyi.2
   exact ⟨k1, by omega, by omega⟩
 have hw : wgtL ((rollsN s).zip ls) = sq s := wgtL_rolls (by omega)
 obtain ⟨t, ht, t1, _, _⟩ := sum_ok hB (Int.le_trans (pw_mono hB (by omega)) hM) (l := (rollsN s).zip ls) (fun rx hr => hmem _ (List.of_mem_zip hr).2) (by omega)
 have hsum : av (sq s) M t = avS (sq s) M ((rollsN s).zip ls) := (sum_av hB ht fun rx hr => (hmem _ (List.of_mem_zip hr).2).1).2
 obtain ⟨_, hxa⟩ := mean_av hB hx fun y h => (hy y h).1
 have hdiff : ∀ (rs : List (Nat × Nat)) (us bs : List E), us.length = rs.length → bs.length = rs.length → (∀ i, i < us.length → av (sq s) M (bs.getD i zeroE') = av (sq s) M (us.getD i zeroE') - av (sq s) M x) →
     avS (sq s) M (rs.zip bs) = avS (sq s) M (rs.zip us) - av (sq s) M x * wgtL (rs.zip us) := by
   intro rs
   induction rs with
   | nil => intro us bs _ _ _; simp [avS, wgtL]
   | cons r rs ih =>
     intro us bs ha hb hab
     match us, bs, ha, hb with
     | a :: us, b :: bs, ha, hb =>
       have i1 := ih us bs (by simpa using ha) (by simpa using hb) fun i hi => by have := hab (i + 1) (by simp; omega); simpa using this
       have h0 := hab 0 (by simp)
       simp at h0
       have e1 : avS (sq s) M ((r :: rs).zip (b :: bs)) = av (sq s) M b * weight r + avS (sq s) M (rs.zip bs) := by simp [avS]
       have e2 : avS (sq s) M ((r :: rs).zip (a :: us)) = av (sq s) M a * weight r + avS (sq s) M (rs.zip us) := by simp [avS]
       have e3 : wgtL ((r :: rs).zip (a :: us)) = weight r + wgtL (rs.zip us) := by simp [wgtL]
       rw [e1, e2, e3, i1, h0, Int.sub_mul, Int.mul_add]
       omega
 have hd := hdiff (rollsN s) ys ls hl (by omega) fun i hi => (hlv i hi).2
 rw [wgtL_rolls hl, ← hxa, av_up hxM (show M ≤ M + 1 by omega)] at hd
 have h1 : pw (sq s) (M + 1 - M) = sq s := by rw [show M + 1 - M = 1 by omega]; show 1 * sq s = sq s; rw [Int.one_mul]
 rw [h1, Int.sub_self] at hd; rw [hd] at hsum
 have ht0 : t.num = 0 := by
   unfold av at hsum
   rcases Int.mul_eq_zero.1 hsum with h | h
   · exact h
   · have := pw_pos hB (M - t.depth); omega
 unfold meanE; rw [ht, Option.bind_some]
 refine mk_some hB zero_val ?_
 show (0 : Int) * _ = t.num * _
 rw [ht0, Int.zero_mul, Int.zero_mul]
end Go.Proofs.YtkaiilmgemaljaaGreat.Ra

/- A region that draws its order, as in QK; operation d makes a table, operation c then changes blocks of that table alone. No statement is proved here; there are no conditions. -/
import Derived.Test.YtgjapehpkakkbaaGreatKQN
namespace Go.Proofs.YtgjapehpkakkbaaGreat
set_option linter.unusedVariables false
set_option linter.unusedSimpArgs false
open Go.RowKit

section
variable {P : Program} {w : World}
def JO (c : Nat) (w : World) (n : Nat) (G : Bool → Nat → Value → Nat → Nat → World → Prop) (L : Nat → Bool) (vs : Nat → Value) (W : World) : Prop :=
 Below w.heap.size w W ∧ ∃ lo hi : Nat → Nat, (∀ i, i < n → L i = true → G (L c) i (vs i) (lo i) (hi i) W ∧ w.heap.size ≤ lo i ∧ lo i ≤ hi i ∧ hi i ≤ W.heap.size) ∧ ∀ i j, i < n → j < n → L i = true → L j = true → i ≠ j → hi i ≤ lo j ∨ hi j ≤ lo i
theorem wp_region_two {id : Nat} {Q : Exit → Act → World → Prop} {a : Act} {l : List Oper} (n : Nat) (X : Nat → Bool) (ds : Nat → Nat) (d c : Nat) (G : Bool → Nat → Value → Nat → Nat → World → Prop)
   (hm : P.follows .mixedOrders = true) (hB : earlyB l.toArray n X ds a.tmps.size = true) (hQ : ∀ (c : List PanicEntry) (a : Act) (d : Tmp) (v : Value) (w : World), Q (.panic c) (Act.put a (some d) v) w → Q (.panic c) a w)
   (hc : c < n) (hd : d < n) (hXc : X c = false) (hcd : Region.waitsFor .any l.toArray c d = true)
   (stab : ∀ b i v lo hi W W', w.heap.size ≤ lo → hi ≤ W.heap.size → G b i v lo hi W → Below W.heap.size W W' → G b i v lo hi W')
   (conv : ∀ i v lo hi W W', w.heap.size ≤ lo → hi ≤ W.heap.size → G false i v lo hi W → (i ≠ d → Frm (fun k => w.heap.size ≤ k ∧ ¬ (lo ≤ k ∧ k < hi)) W W') → G true i v lo hi W')
   (early : ∀ b i o, i < n → X i = true → l[i]? = some o → ∀ (a' : Act) (W : World), Below w.heap.size w W → (∀ t, (∀ i, i < n → ds i ≠ t) → a'.tmps.getD t undef = a.tmps.getD t undef) →
     (∀ j, j < n → Region.waitsFor .any l.toArray i j = true → ∃ lo hi, G b j (a'.tmps.getD (ds j) undef) lo hi W) → ∃ v, (∀ W', (execOp a'.eval o).run P W' = .ok (.value v) W') ∧ G b i v W.heap.size W.heap.size W)
   (step : ∀ b i o, i < n → X i = false → i ≠ c → l[i]? = some o → ∀ (a' : Act) (W : World), Below w.heap.size w W → (∀ t, (∀ i, i < n → ds i ≠ t) → a'.tmps.getD t undef = a.tmps.getD t undef) →
     (∀ j, j < n → Region.waitsFor .any l.toArray i j = true → ∃ lo hi, G b j (a'.tmps.getD (ds j) undef) lo hi W) → MStep P o a' W (fun v W' => Below W.heap.size W W' ∧ G b i v W.heap.size W'.heap.size W'))
   (once : ∀ o, l[c]? = some o → ∀ (a' : Act) (W : World) (lo hi : Nat), Below w.heap.size w W → w.heap.size ≤ lo → hi ≤ W.heap.size → G false d (a'.tmps.getD (ds d) undef) lo hi W → (∀ t, (∀ i, i < n → ds i ≠ t) → a'.tmps.getD t undef = a.tmps.getD t undef) →
     (∀ j, j < n → Region.waitsFor .any l.toArray c j = true → ∃ lo hi, G false j (a'.tmps.getD (ds j) undef) lo hi W) → MStep P o a' W (fun v W' => Frm (fun k => lo ≤ k ∧ k < hi) W W' ∧ G true c v W.heap.size W'.heap.size W'))
   (tail : ∀ (v : Nat → Value) (W : World) (lo hi : Nat → Nat), Below w.heap.size w W → (∀ i, i < n → G true i (v i) (lo i) (hi i) W ∧ w.heap.size ≤ lo i ∧ lo i ≤ hi i ∧ hi i ≤ W.heap.size) → (∀ i j, i < n → j < n → i ≠ j → hi i ≤ lo j ∨ hi j ≤ lo i) → wpList P l.toArray Q (l.drop n) (putV a ds v n) W) :
   (Code.region id l.toArray true).wp P Q a w := by
 have fin : ∀ {i : Nat} {L : Nat → Bool} {a' : Act} {W : World} {lo hh : Nat → Nat}, Below w.heap.size w W → (∀ i, i < n → L i = true → G (L c) i (a'.tmps.getD (ds i) undef) (lo i) (hh i) W ∧ w.heap.size ≤ lo i ∧ lo i ≤ hh i ∧ hh i ≤ W.heap.size) → (∀ i j, i < n → j < n → L i = true → L j = true → i ≠ j → hh i ≤ lo j ∨ hh j ≤ lo i) →
  ∀ (v : Value) (W' : World) (L' : Nat → Bool) (vs' : Nat → Value), W.heap.size ≤ W'.heap.size → Below w.heap.size w W' → Upd n i v L (fun k => a'.tmps.getD (ds k) undef) L' vs' → G (L' c) i v W.heap.size W'.heap.size W' → (∀ k, k < n → k ≠ i → L k = true → G (L' c) k (a'.tmps.getD (ds k) undef) (lo k) (hh k) W') → JO c w n G L' vs' W' := by
     intro i L a' W lo hh hb h1 h2
     rintro v W' L' vs' hz' hbw ⟨u1, u2, u3⟩ hG hold
     have hz : w.heap.size ≤ W.heap.size := hb.size
     refine ⟨hbw, fun k => if k = i then W.heap.size else lo k, fun k => if k = i then W'.heap.size else hh k, fun k hk hL => ?_, fun k m hk hm' hLk hLm hne => ?_⟩
     · by_cases e : k = i
       · subst e
         simp only [if_true]
         rw [u2]
         exact ⟨hG, hz, hz', Nat.le_refl _⟩
       · simp only [if_neg e]
         obtain ⟨v1, v2⟩ := u3 k hk e; rw [v1] at hL; obtain ⟨g1, g2, g3, g4⟩ := h1 k hk hL; rw [v2]
         exact ⟨hold k hk e hL, g2, g3, by omega⟩
     · by_cases e : k = i
       · subst e
         have em : m ≠ k := Ne.symm hne
         simp only [if_true, if_neg em]
         obtain ⟨v1, _⟩ := u3 m hm' em; rw [v1] at hLm; have := (h1 m hm' hLm).2.2.2
         exact .inr (by omega)
       · by_cases e2 : m = i
         · subst e2
           simp only [if_true, if_neg e]
           obtain ⟨v1, _⟩ := u3 k hk e; rw [v1] at hLk; have := (h1 k hk hLk).2.2.2
           exact .inl (by omega)
         · simp only [if_neg e, if_neg e2]
           obtain ⟨v1, _⟩ := u3 k hk e; obtain ⟨v2, _⟩ := u3 m hm' e2; rw [v1] at hLk; rw [v2] at hLm
           exact h2 k m hk hm' hLk hLm hne
 refine wp_region_inv n X ds (JO c w n G) hm hB hQ ?_ ?_ ?_ ?_
 · intro vs
   exact ⟨⟨rfl, rfl, rfl, Nat.le_refl _, fun _ _ => rfl⟩, fun _ => 0, fun _ => 0, fun i _ h => (by cases h), fun i j _ _ h => (by cases h)⟩
 · intro i o hi hX ho L a' W hJ hun hfar hdep
   obtain ⟨hb, lo, hh, h1, h2⟩ := hJ
   have hic : i ≠ c := fun e => by rw [e, hXc] at hX; cases hX
   obtain ⟨v, hv, hG⟩ := early (L c) i o hi hX ho a' W hb hfar fun j hj hw => ⟨lo j, hh j, (h1 j hj (hdep j hj hw)).1⟩
   refine ⟨v, hv, fun L' vs' hu => ?_⟩
   have hL' : L' c = L c := (hu.2.2 c hc (Ne.symm hic)).1
   refine fin hb h1 h2 v W L' vs' (Nat.le_refl _) hb hu (by rw [hL']; exact hG) fun k hk hne hL => ?_
   rw [hL']
   exact (h1 k hk hL).1
 · intro i o hi hX ho L a' W hJ hun hfar hdep
   obtain ⟨hb, lo, hh, h1, h2⟩ := hJ
   by_cases hic : i = c
   · subst hic
     obtain ⟨gd, gd2, gd3, gd4⟩ := h1 d hd (hdep d hd hcd); rw [hun] at gd
     refine (once o ho a' W (lo d) (hh d) hb gd2 gd4 gd hfar fun j hj hw => ⟨lo j, hh j, by have := (h1 j hj (hdep j hj hw)).1; rwa [hun] at this⟩).mono ?_
     rintro v W' ⟨hf, hG⟩ L' vs' hu
     have hL' : L' i = true := hu.1
     refine fin hb h1 h2 v W' L' vs' hf.size ?_ hu (by rw [hL']; exact hG) fun k hk hne hL => ?_
     · exact ⟨hf.os.trans hb.os, hf.tape.trans hb.tape, hf.output.trans hb.output, Nat.le_trans hb.size hf.size, fun k hk => (hf.block k (Nat.lt_of_lt_of_le hk hb.size) fun h => by omega).trans (hb.block k hk)⟩
     · rw [hL']
       obtain ⟨g1, g2, g3, g4⟩ := h1 k hk hL; rw [hun] at g1
       refine conv k _ _ _ W W' g2 g4 g1 fun hkd => hf.mono fun j hj => ⟨by omega, fun h => ?_⟩
       rcases h2 k d hk hd hL (hdep d hd hcd) hkd with h | h <;> omega
   · refine (step (L c) i o hi hX hic ho a' W hb hfar fun j hj hw => ⟨lo j, hh j, (h1 j hj (hdep j hj hw)).1⟩).mono ?_
     rintro v W' ⟨hb', hG⟩ L' vs' hu
     have hL' : L' c = L c := (hu.2.2 c hc (Ne.symm hic)).1
     refine fin hb h1 h2 v W' L' vs' hb'.size (hb.trans (hb'.mono hb.size)) hu (by rw [hL']; exact hG) fun k hk hne hL => ?_
     rw [hL']; obtain ⟨g1, g2, g3, g4⟩ := h1 k hk hL
     exact stab _ _ _ _ _ _ _ g2 g4 g1 hb'
 · intro L v W hL hJ
   obtain ⟨hb, lo, hh, h1, h2⟩ := hJ; rw [hL c hc] at h1
   exact tail v W lo hh hb (fun i hi => h1 i hi (hL i hi)) fun i j hi hj hne => h2 i j hi hj (hL i hi) (hL j hj) hne
end
end Go.Proofs.YtgjapehpkakkbaaGreat

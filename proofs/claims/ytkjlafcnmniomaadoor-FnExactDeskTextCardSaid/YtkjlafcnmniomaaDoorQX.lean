/- A region that draws its order, as in QR; some operations of the head that only compute are done as soon as they may be: the chain behind need not wait for them. No statement is proved here; there are no conditions. -/
import Derived.Test.YtkjlafcnmniomaaDoorQR
namespace Go.Proofs.YtkjlafcnmniomaaDoor
set_option linter.unusedVariables false
set_option linter.unusedSimpArgs false
open Go.RowKit

section
variable {P : Program} {w : World}
def sinkXs (ops : Array Oper) (m : Nat) (X : Nat → Bool) : Bool :=
  (List.range m).all fun i => X i || (List.range (m + 1)).any fun j => decide (i < j) && !X j && Region.waitsFor .any ops j i
theorem tail_waitsXs {ops : Array Oper} {m : Nat} {X : Nat → Bool} {listed : Array Bool} (hs : sinkXs ops m X = true) (hc : Region.chainB .any ops m = true) (hm : m < ops.size) (inv : HeadInv .any ops m listed) :
    ∀ (d i : Nat), m - i = d → i < m → X i = false → listed.getD i true = false → ∀ t, m ≤ t → t ∉ Region.ready .any ops listed := by
  intro d
  induction d using Nat.strongRecOn with
  | _ d ih =>
    intro i hd hi hix hun t ht hr
    obtain ⟨_, ot, hot, hall⟩ := mem_ready.1 hr
    have htlt : t < ops.size := (Array.getElem?_eq_some_iff.1 hot).1
    by_cases htm : t = m
    · subst htm
      have h1 := List.all_eq_true.1 hs i (List.mem_range.2 hi)
      simp only [hix, Bool.false_or] at h1
      obtain ⟨j, hj, hj2⟩ := List.any_eq_true.1 h1
      simp only [Bool.and_eq_true, decide_eq_true_eq, Bool.not_eq_true'] at hj2
      obtain ⟨⟨hij, hjx⟩, hjw⟩ := hj2
      obtain ⟨oj, hoj, e, he, hb, hon⟩ := Region.waitsFor_spec hjw
      have hjle : j ≤ t := by have := List.mem_range.1 hj; omega
      by_cases hjt : j = t
      · subst hjt
        have : oj = ot := Option.some.inj (hoj.symm.trans hot)
        subst this
        have h2 := hall e he hb
        rw [hon, getD_both hun] at h2
        cases h2
      · cases hl : listed.getD j false with
        | true =>
          have h2 := inv.closed j oj hoj hl e he hb
          rw [hon, getD_both hun] at h2
          cases h2
        | false =>
          have hjs : j < listed.size := by rw [inv.size]; omega
          exact ih (t - j) (by omega) j rfl (by omega) hjx (getD_in hjs hl) t (Nat.le_refl _) hr
    · have h1 := List.all_eq_true.1 hc t (List.mem_range.2 htlt)
      simp only [Bool.or_eq_true, decide_eq_true_eq] at h1
      rcases h1 with h1 | h1
      · omega
      · obtain ⟨o', ho', e, he, hb, hon⟩ := Region.waitsFor_spec h1
        have : o' = ot := Option.some.inj (ho'.symm.trans hot)
        subst this
        have h2 := hall e he hb
        rw [hon, getD_both (inv.tail (t - 1) (by omega) (by omega))] at h2
        cases h2
def earlyB (ops : Array Oper) (n : Nat) (X : Nat → Bool) (ds : Nat → Nat) (m : Nat) : Bool :=
  decide (n < ops.size) && sinkXs ops n X && Region.chainB .any ops n && Region.seqB .any ops (ops.size - n) n (headArr n ops.size) && Region.noSelect ops &&
  ((List.range n).all fun i => match ops[i]? with
    | some o => o.guard.isNone && decide (o.dst = some (ds i)) && decide (ds i < m) && (o.after.all fun e => !Region.binds .any e || decide (e.on < i)) && ((List.range n).all fun j => i == j || decide (ds i ≠ ds j))
    | none => false) &&
  ((List.range n).all fun x => !X x || match ops[x]? with
    | some ox => (List.range ops.size).all fun j => j == x || Region.waitsFor .any ops j x || Region.waitsFor .any ops x j || (match ops[j]? with
      | some oj => ox.apart ops oj
      | none => true)
    | none => false)
theorem wp_region_early {id : Nat} {Q : Exit → Act → World → Prop} {a : Act} {l : List Oper} (n : Nat) (X : Nat → Bool) (ds : Nat → Nat) (Rel : World → World → Prop) (Inv : World → Prop) (G : Nat → Value → World → Prop)
    (hm : P.follows .mixedOrders = true) (hB : earlyB l.toArray n X ds a.tmps.size = true) (hQ : ∀ (c : List PanicEntry) (a : Act) (d : Tmp) (v : Value) (w : World), Q (.panic c) (Act.put a (some d) v) w → Q (.panic c) a w) (rtr : ∀ a b c, Rel a b → Rel b c → Rel a c) (rrf : ∀ a, Rel a a)
    (stab : ∀ i v W W', G i v W → Rel W W' → G i v W') (hr0 : Rel w { w with drawn := w.drawn + 1 }) (hi0 : Inv { w with drawn := w.drawn + 1 })
    (early : ∀ i o, i < n → X i = true → l[i]? = some o → ∀ (a' : Act) (W : World), Rel w W → Inv W → (∀ t, (∀ i, i < n → ds i ≠ t) → a'.tmps.getD t undef = a.tmps.getD t undef) →
      (∀ j, j < n → Region.waitsFor .any l.toArray i j = true → G j (a'.tmps.getD (ds j) undef) W) → ∃ v, (∀ W', (execOp a'.eval o).run P W' = .ok (.value v) W') ∧ G i v W)
    (step : ∀ i o, i < n → X i = false → l[i]? = some o → ∀ (a' : Act) (W : World), Rel w W → Inv W → (∀ t, (∀ i, i < n → ds i ≠ t) → a'.tmps.getD t undef = a.tmps.getD t undef) →
      (∀ j, j < n → Region.waitsFor .any l.toArray i j = true → G j (a'.tmps.getD (ds j) undef) W) → MStep P o a' W (fun v W' => Rel W W' ∧ Inv W' ∧ G i v W'))
    (tail : ∀ (v : Nat → Value) (W : World), Rel w W → Inv W → (∀ i, i < n → G i (v i) W) → wpList P l.toArray Q (l.drop n) (putV a ds v n) W) :
    (Code.region id l.toArray true).wp P Q a w := by
  simp only [earlyB, Bool.and_eq_true, decide_eq_true_eq] at hB
  obtain ⟨⟨⟨⟨⟨⟨hn, hs⟩, hc⟩, hq⟩, hsel⟩, hh⟩, hx⟩ := hB
  have hop : ∀ i, i < n → ∃ o, l.toArray[i]? = some o ∧ l[i]? = some o ∧ o.guard = none ∧ o.dst = some (ds i) ∧ ds i < a.tmps.size ∧ (∀ e ∈ o.after, Region.binds .any e = true → e.on < i) ∧ ∀ j, j < n → i ≠ j → ds i ≠ ds j := fun i hi => by
    have h := List.all_eq_true.1 hh i (List.mem_range.2 hi)
    cases ho : l.toArray[i]? with
    | none => rw [ho] at h; cases h
    | some o =>
      rw [ho] at h
      simp only [Bool.and_eq_true, decide_eq_true_eq] at h
      obtain ⟨⟨⟨⟨h1, h2⟩, h3⟩, h4⟩, h5⟩ := h
      refine ⟨o, rfl, by simpa using ho, by simpa using h1, h2, h3, fun e he hb => ?_, fun j hj hij => ?_⟩
      · have h6 := (Array.all_eq_true'.1 h4) e he
        simpa [hb] using h6
      · have h6 := List.all_eq_true.1 h5 j (List.mem_range.2 hj)
        simpa [hij] using h6
  have hdd : ∀ i j, i < n → j < n → i ≠ j → ds i ≠ ds j := fun i j hi hj hij => by obtain ⟨_, _, _, _, _, _, _, h⟩ := hop i hi; exact h j hj hij
  have hdz : ∀ i, i < n → ds i < a.tmps.size := fun i hi => by obtain ⟨_, _, _, _, _, h, _⟩ := hop i hi; exact h
  have H : ∀ (f : Nat) (listed : Array Bool) (a' : Act) (W : World), cntL listed n + f = n → RInv l.toArray a w n ds Rel Inv G listed a' W → wpAny P .any l.toArray Q (f + (l.toArray.size - n)) listed a' W := by
    intro f
    induction f with
    | zero =>
      intro listed a' W hcnt I
      have hall := cntL_full (listed := listed) (n := n) (by omega)
      have hl := headArr_of I.inv hall
      have hv : putV a ds (fun i => a'.tmps.getD (ds i) undef) n = a' := by
        have e1 : (putV a ds (fun i => a'.tmps.getD (ds i) undef) n).tmps = a'.tmps := by
          apply Array.ext
          · rw [putV_size, I.sz]
          · intro t h1 h2
            have e : ∀ (A : Array Value) (h : t < A.size), A[t] = A.getD t undef := fun A h => by simp [h]
            rw [e _ h1, e _ h2]
            by_cases hx : ∃ i, i < n ∧ ds i = t
            · obtain ⟨i, hi, rfl⟩ := hx
              exact putV_at a ds _ n hdz hdd i hi
            · have hx' : ∀ i, i < n → ds i ≠ t := fun i hi he => hx ⟨i, hi, he⟩
              rw [putV_far a ds _ n hx', I.far t hx']
        have e2 : (putV a ds (fun i => a'.tmps.getD (ds i) undef) n).defers = a'.defers := by rw [putV_defers, I.df]
        generalize putV a ds (fun i => a'.tmps.getD (ds i) undef) n = x at *
        cases x; cases a'
        simp only at e1 e2
        rw [e1, e2]
      have ht := tail (fun i => a'.tmps.getD (ds i) undef) W I.b I.i (fun i hi => I.g i hi (hall i hi))
      rw [hv] at ht
      rw [Nat.zero_add]
      have hdl : (l.drop n).length = l.toArray.size - n := by simp
      have := wpAny_of_seq (md := .any) (Q' := Q) (ops := l.toArray) (l.drop n) n listed a' W (fun j => by simp [List.getElem?_drop]) (by rw [hdl, hl]; exact hq) ht
      rwa [hdl] at this
    | succ f ih =>
      intro listed a' W hcnt I
      by_cases hxr : ∃ x, x ∈ Region.ready .any l.toArray listed ∧ x < n ∧ X x = true
      · obtain ⟨x, hxr, hxn, hxX⟩ := hxr
        obtain ⟨hun, o', ho', hall'⟩ := mem_ready.1 hxr
        obtain ⟨o, ho, hol, hg, hd, hz, _, _⟩ := hop x hxn
        have : o' = o := Option.some.inj (ho'.symm.trans ho)
        subst this
        obtain ⟨v, hrun, hG⟩ := early x o' hxn hxX hol a' W I.b I.i I.far fun j hj hw => by
          obtain ⟨oj, hoj, e, he, hb, hon⟩ := Region.waitsFor_spec hw
          have : oj = o' := Option.some.inj (hoj.symm.trans ho')
          subst this
          exact I.g j hj (by have := hall' e he hb; rwa [hon] at this)
        have hfree : ∀ j oj, l.toArray[j]? = some oj → j ≠ x → listed.getD j true = false → (∀ e ∈ oj.after, Region.binds .any e = true → e.on ≠ x) → o'.apart l.toArray oj = true := fun j oj hj hjx hju hno => by
          have h := List.all_eq_true.1 hx x (List.mem_range.2 hxn)
          rw [hxX, ho'] at h
          simp only [Bool.not_true, Bool.false_or] at h
          have h2 := List.all_eq_true.1 h j (List.mem_range.2 (Array.getElem?_eq_some_iff.1 hj).1)
          rw [hj] at h2
          simp only [Bool.or_eq_true, beq_iff_eq] at h2
          rcases h2 with ((h2 | h2) | h2) | h2
          · exact absurd h2 hjx
          · obtain ⟨oj', hoj', e, he, hb, hon⟩ := Region.waitsFor_spec h2
            have : oj' = oj := Option.some.inj (hoj'.symm.trans hj)
            subst this
            exact absurd hon (hno e he hb)
          · obtain ⟨oj', hoj', e, he, hb, hon⟩ := Region.waitsFor_spec h2
            have : oj' = o' := Option.some.inj (hoj'.symm.trans ho')
            subst this
            have h3 := hall' e he hb
            rw [hon, getD_both hju] at h3
            cases h3
          · exact h2
        have hsz : x < listed.size := by rw [I.inv.size]; omega
        rw [show f + 1 + (l.toArray.size - n) = (f + (l.toArray.size - n)) + 1 by omega]
        refine wpAny_first ho' (Region.noSelect_spec hsel) (fun c a w h => hQ c a (ds x) v w (by rw [← hd]; exact h)) _ listed a' W hfree hxr (.inl ⟨by simp [Region.wanted, hg], hrun⟩) ?_
        rw [hd]
        refine ih _ _ _ (by rw [cntL_set hsz (getD_both hun), if_pos hxn]; omega) ⟨I.inv.set hxr hxn, I.b, I.i, by simp [Act.put, I.df], by simp [Act.put, I.sz], fun t ht => ?_, fun j hj hlj => ?_⟩
        · rw [put_get_ne _ (ht x hxn)]; exact I.far t ht
        · by_cases e : j = x
          · subst e; rw [put_get_eq _ (by rw [I.sz]; exact hz)]; exact hG
          · rw [put_get_ne _ (hdd x j hxn hj (Ne.symm e))]
            rw [getD_set_ne false (Ne.symm e)] at hlj
            exact I.g j hj hlj
      obtain ⟨k, hk, hkf, hkl⟩ := cntL_hole (listed := listed) (n := n) (by omega)
      have hkr : k ∈ Region.ready .any l.toArray listed := by
        obtain ⟨o, ho, _, _, _, _, h5, _⟩ := hop k hk
        exact mem_ready.2 ⟨getD_in (by rw [I.inv.size]; omega) hkf, o, ho, fun e he hb => hkl _ (h5 e he hb)⟩
      have hkX : X k = false := by
        cases h : X k with
        | false => rfl
        | true => exact absurd ⟨k, hkr, hk, h⟩ hxr
      rw [show f + 1 + (l.toArray.size - n) = (f + (l.toArray.size - n)) + 1 by omega]
      refine ⟨fun h0 => (by rw [h0] at hkr; cases hkr), fun i hi => ?_⟩
      have hin : i < n := by
        rcases Nat.lt_or_ge i n with h | h
        · exact h
        · exact absurd hi (tail_waitsXs hs hc hn I.inv _ k rfl hk hkX (getD_in (by rw [I.inv.size]; omega) hkf) i h)
      have hiX : X i = false := by
        cases h : X i with
        | false => rfl
        | true => exact absurd ⟨i, hi, hin, h⟩ hxr
      obtain ⟨hun, o', ho', hall'⟩ := mem_ready.1 hi
      obtain ⟨o, ho, hol, hg, hd, hz, _, _⟩ := hop i hin
      have : o' = o := Option.some.inj (ho'.symm.trans ho)
      subst this
      have hst := step i o' hin hiX hol a' W I.b I.i I.far fun j hj hw => by
        obtain ⟨oj, hoj, e, he, hb, hon⟩ := Region.waitsFor_spec hw
        have : oj = o' := Option.some.inj (hoj.symm.trans ho')
        subst this
        exact I.g j hj (by have := hall' e he hb; rwa [hon] at this)
      unfold wpOp
      rw [ho']
      simp only [Region.wanted, hg]
      simp only [if_true]
      refine .inl (hst.wp fun v W' hgd => ?_)
      obtain ⟨hb, hI, hG⟩ := hgd
      rw [hd]
      have hsz : i < listed.size := by rw [I.inv.size]; omega
      refine ih _ _ _ (by rw [cntL_set hsz (getD_both hun), if_pos hin]; omega) ⟨I.inv.set hi hin, rtr _ _ _ I.b hb, hI, by simp [Act.put, I.df], by simp [Act.put, I.sz], fun t ht => ?_, fun j hj hlj => ?_⟩
      · rw [put_get_ne _ (ht i hin)]; exact I.far t ht
      · by_cases e : j = i
        · subst e; rw [put_get_eq _ (by rw [I.sz]; exact hz)]; exact hG
        · rw [put_get_ne _ (hdd i j hin hj (Ne.symm e))]
          rw [getD_set_ne false (Ne.symm e)] at hlj
          exact stab _ _ _ _ (I.g j hj hlj) hb
  refine wp_region_any hm ?_
  have := H n (Array.replicate l.toArray.size false) a { w with drawn := w.drawn + 1 } (by rw [cntL_zero]; omega)
    ⟨⟨by simp, fun j oj _ hl => (by rw [getD_replicate_false] at hl; cases hl), fun t _ ht => getD_in (by simpa using ht) (getD_replicate_false _ _)⟩, hr0, hi0, rfl, rfl, fun _ _ => rfl,
      fun i _ h => (by rw [getD_replicate_false] at h; cases h)⟩
  rwa [show n + (l.toArray.size - n) = l.toArray.size by omega] at this
end
end Go.Proofs.YtkjlafcnmniomaaDoor

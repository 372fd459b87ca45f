/- A region that draws its order: a head of operations that read, call or make memory in whatever order, each with a value of which only some words are known that last while memory grows; one chain of operations behind all of them. No statement is proved here; there are no conditions. -/
import Derived.Test.YtkjlafcnmniomaaDoorQT
namespace Go.Proofs.YtkjlafcnmniomaaDoor
set_option linter.unusedVariables false
set_option linter.unusedSimpArgs false
open Go.RowKit

/-! ### how many of the first n are done -/
def cntL (listed : Array Bool) : Nat → Nat
  | 0 => 0
  | n + 1 => cntL listed n + if listed.getD n false = true then 1 else 0
theorem cntL_le (listed : Array Bool) : ∀ n, cntL listed n ≤ n
  | 0 => Nat.le_refl _
  | n + 1 => by have := cntL_le listed n; unfold cntL; split <;> omega
theorem cntL_full {listed : Array Bool} : ∀ {n : Nat}, cntL listed n = n → ∀ i, i < n → listed.getD i false = true
  | 0, _, i, h => by omega
  | n + 1, h, i, hi => by
    have h1 := cntL_le listed n
    unfold cntL at h
    split at h
    · rename_i hn
      by_cases e : i = n
      · rw [e]; exact hn
      · exact cntL_full (n := n) (by omega) i (by omega)
    · omega
theorem cntL_zero (m : Nat) : ∀ n, cntL (Array.replicate m false) n = 0
  | 0 => rfl
  | n + 1 => by unfold cntL; rw [cntL_zero m n, getD_replicate_false]; rfl
theorem cntL_hole {listed : Array Bool} : ∀ {n : Nat}, cntL listed n < n → ∃ i, i < n ∧ listed.getD i false = false ∧ ∀ j, j < i → listed.getD j false = true
  | 0, h => by omega
  | n + 1, h => by
    by_cases h1 : cntL listed n < n
    · obtain ⟨i, h2, h3, h4⟩ := cntL_hole h1
      exact ⟨i, by omega, h3, h4⟩
    · have h2 := cntL_le listed n
      have h3 := cntL_full (show cntL listed n = n by omega)
      unfold cntL at h
      split at h
      · omega
      · rename_i hn
        exact ⟨n, by omega, by simpa using hn, h3⟩
theorem cntL_set {listed : Array Bool} {i : Nat} (hs : i < listed.size) (h : listed.getD i false = false) : ∀ n, cntL (listed.setIfInBounds i true) n = cntL listed n + if i < n then 1 else 0
  | 0 => rfl
  | n + 1 => by
    unfold cntL
    rw [cntL_set hs h n]
    by_cases e : i = n
    · subst e
      have h1 : (listed.setIfInBounds i true).getD i false = true := by simp [hs]
      rw [h1, h]; simp
    · rw [getD_set_ne false e]
      have e2 : (if i < n + 1 then 1 else 0) = if i < n then 1 else 0 := by
        by_cases hlt : i < n
        · rw [if_pos hlt, if_pos (by omega)]
        · rw [if_neg hlt, if_neg (by omega)]
      rw [e2]; omega

section
variable {P : Program} {w : World}

def putV (a : Act) (ds : Nat → Nat) (v : Nat → Value) : Nat → Act
  | 0 => a
  | k + 1 => (putV a ds v k).put (some (ds k)) (v k)
theorem putV_defers (a : Act) (ds : Nat → Nat) (v : Nat → Value) : ∀ n, (putV a ds v n).defers = a.defers
  | 0 => rfl
  | n + 1 => by unfold putV; simp [Act.put, putV_defers a ds v n]
theorem putV_size (a : Act) (ds : Nat → Nat) (v : Nat → Value) : ∀ n, (putV a ds v n).tmps.size = a.tmps.size
  | 0 => rfl
  | n + 1 => by unfold putV; simp [Act.put, putV_size a ds v n]
theorem put_get_ne (a : Act) {d t : Nat} (h : d ≠ t) (v : Value) : (a.put (some d) v).tmps.getD t undef = a.tmps.getD t undef := by
  simp only [Act.put, Array.getD_eq_getD_getElem?]; rw [Array.getElem?_setIfInBounds_ne h]
theorem put_get_eq (a : Act) {d : Nat} (h : d < a.tmps.size) (v : Value) : (a.put (some d) v).tmps.getD d undef = v := by
  simp [Act.put, h]
theorem putV_far (a : Act) (ds : Nat → Nat) (v : Nat → Value) {t : Nat} : ∀ n, (∀ i, i < n → ds i ≠ t) → (putV a ds v n).tmps.getD t undef = a.tmps.getD t undef
  | 0, _ => rfl
  | n + 1, h => by unfold putV; rw [put_get_ne _ (h n (by omega)), putV_far a ds v n fun i hi => h i (by omega)]
theorem putV_at (a : Act) (ds : Nat → Nat) (v : Nat → Value) : ∀ n, (∀ i, i < n → ds i < a.tmps.size) → (∀ i j, i < n → j < n → i ≠ j → ds i ≠ ds j) → ∀ i, i < n → (putV a ds v n).tmps.getD (ds i) undef = v i
  | 0, _, _, i, hi => by omega
  | n + 1, hs, hd, i, hi => by
    unfold putV
    by_cases e : i = n
    · subst e; exact put_get_eq _ (by rw [putV_size]; exact hs i (by omega)) _
    · rw [put_get_ne _ (hd n i (by omega) (by omega) (by omega))]
      exact putV_at a ds v n (fun i hi => hs i (by omega)) (fun i j hi hj => hd i j (by omega) (by omega)) i (by omega)

/-- What an operation of the head gives. -/
def MGood (G : Nat → Value → World → Prop) (own : Nat → Value → Option Nat) (i : Nat) (W : World) (v : Value) (W' : World) : Prop :=
  Below W.heap.size W W' ∧ G i v W' ∧ ∀ b, own i v = some b → W.heap.size ≤ b
def MStep (P : Program) (o : Oper) (a : Act) (W : World) (good : Value → World → Prop) : Prop :=
  (∃ v W', (execOp a.eval o).run P W = .ok (.value v) W' ∧ good v W') ∨ ∃ f args, (execOp a.eval o).run P W = .ok (.enter f args) W ∧ Calls P f args W fun e W' => ∃ v, e = .returned v ∧ good v W'
theorem MStep.wp {o : Oper} {a : Act} {W : World} {good : Value → World → Prop} {K : Act → World → Prop} {Q : Exit → Act → World → Prop} (h : MStep P o a W good) (hK : ∀ v W', good v W' → K (a.put o.dst v) W') : o.wp P a W K Q := by
  unfold Oper.wp
  rcases h with ⟨v, W', hr, hg⟩ | ⟨f, args, hr, hc⟩
  · rw [hr, Oper.upon_value]; exact hK v W' hg
  · rw [hr, Oper.upon_enter]
    refine hc.mono ?_
    rintro e W' ⟨v, rfl, hg⟩
    exact hK v W' hg

def headArr (n m : Nat) : Array Bool := ((List.range m).map fun i => decide (i < n)).toArray
def makesB (ops : Array Oper) (n : Nat) (ds : Nat → Nat) (m : Nat) : Bool :=
  decide (n < ops.size) && Region.sinkB .any ops n && Region.chainB .any ops n && Region.seqB .any ops (ops.size - n) n (headArr n ops.size) &&
  ((List.range n).all fun i => match ops[i]? with
    | some o => o.guard.isNone && decide (o.dst = some (ds i)) && decide (ds i < m) && (o.after.all fun e => !Region.binds .any e || decide (e.on < i)) && ((List.range n).all fun j => i == j || decide (ds i ≠ ds j))
    | none => false)

structure MInv (ops : Array Oper) (a0 : Act) (w : World) (n : Nat) (ds : Nat → Nat) (G : Nat → Value → World → Prop) (own : Nat → Value → Option Nat) (listed : Array Bool) (a : Act) (W : World) : Prop where
  inv : HeadInv .any ops n listed
  b : Below w.heap.size w W
  df : a.defers = a0.defers
  sz : a.tmps.size = a0.tmps.size
  far : ∀ t, (∀ i, i < n → ds i ≠ t) → a.tmps.getD t undef = a0.tmps.getD t undef
  g : ∀ i, i < n → listed.getD i false = true → G i (a.tmps.getD (ds i) undef) W
  ap : ∀ i j, i < n → j < n → i ≠ j → listed.getD i false = true → listed.getD j false = true → ∀ b, own i (a.tmps.getD (ds i) undef) = some b → own j (a.tmps.getD (ds j) undef) ≠ some b

theorem headArr_of {ops : Array Oper} {n : Nat} {listed : Array Bool} (inv : HeadInv .any ops n listed) (hall : ∀ i, i < n → listed.getD i false = true) : listed = headArr n ops.size := by
  apply Array.ext
  · rw [inv.size]; simp [headArr]
  · intro i h1 h2
    by_cases hi : i < n
    · have := hall i hi
      simp [h1] at this
      simp [headArr, hi, this]
    · have := inv.tail i (by omega) (by rw [← inv.size]; exact h1)
      simp [h1] at this
      simp [headArr, hi, this]

theorem wp_region_makes {id : Nat} {Q : Exit → Act → World → Prop} {a : Act} {l : List Oper} (n : Nat) (ds : Nat → Nat) (G : Nat → Value → World → Prop) (own : Nat → Value → Option Nat)
    (hm : P.follows .mixedOrders = true) (hB : makesB l.toArray n ds a.tmps.size = true)
    (stab : ∀ i v W W', G i v W → Below W.heap.size W W' → G i v W') (hlt : ∀ i v W b, G i v W → own i v = some b → b < W.heap.size)
    (step : ∀ i o, i < n → l[i]? = some o → ∀ (a' : Act) (W : World), Below w.heap.size w W → (∀ t, (∀ i, i < n → ds i ≠ t) → a'.tmps.getD t undef = a.tmps.getD t undef) →
      (∀ j, j < n → Region.waitsFor .any l.toArray i j = true → G j (a'.tmps.getD (ds j) undef) W) → MStep P o a' W (MGood G own i W))
    (tail : ∀ (v : Nat → Value) (W : World), Below w.heap.size w W → (∀ i, i < n → G i (v i) W) → (∀ i j, i < n → j < n → i ≠ j → ∀ b, own i (v i) = some b → own j (v j) ≠ some b) → wpList P l.toArray Q (l.drop n) (putV a ds v n) W) :
    (Code.region id l.toArray true).wp P Q a w := by
  simp only [makesB, Bool.and_eq_true, decide_eq_true_eq] at hB
  obtain ⟨⟨⟨⟨hn, hs⟩, hc⟩, hq⟩, hh⟩ := hB
  have hop : ∀ i, i < n → ∃ o, l.toArray[i]? = some o ∧ l[i]? = some o ∧ o.guard = none ∧ o.dst = some (ds i) ∧ ds i < a.tmps.size ∧ (∀ e ∈ o.after, Region.binds .any e = true → e.on < i) ∧ ∀ j, j < n → i ≠ j → ds i ≠ ds j := fun i hi => by
    have h := List.all_eq_true.1 hh i (List.mem_range.2 hi)
    cases ho : l.toArray[i]? with
    | none => rw [ho] at h; cases h
    | some o =>
      rw [ho] at h
      simp only [Bool.and_eq_true, decide_eq_true_eq] at h
      obtain ⟨⟨⟨⟨h1, h2⟩, h3⟩, h4⟩, h5⟩ := h
      refine ⟨o, rfl, by simpa using ho, by simpa using h1, h2, h3, fun e he hb => ?_, fun j hj hij => ?_⟩
      · have h6 := (Array.all_eq_true'.1 h4) e he
        simpa [hb] using h6
      · have h6 := List.all_eq_true.1 h5 j (List.mem_range.2 hj)
        simpa [hij] using h6
  have hdd : ∀ i j, i < n → j < n → i ≠ j → ds i ≠ ds j := fun i j hi hj hij => by obtain ⟨_, _, _, _, _, _, _, h⟩ := hop i hi; exact h j hj hij
  have hdz : ∀ i, i < n → ds i < a.tmps.size := fun i hi => by obtain ⟨_, _, _, _, _, h, _⟩ := hop i hi; exact h
  have H : ∀ (f : Nat) (listed : Array Bool) (a' : Act) (W : World), cntL listed n + f = n → MInv l.toArray a w n ds G own listed a' W → wpAny P .any l.toArray Q (f + (l.toArray.size - n)) listed a' W := by
    intro f
    induction f with
    | zero =>
      intro listed a' W hcnt I
      have hall := cntL_full (listed := listed) (n := n) (by omega)
      have hl := headArr_of I.inv hall
      have hv : putV a ds (fun i => a'.tmps.getD (ds i) undef) n = a' := by
        have e1 : (putV a ds (fun i => a'.tmps.getD (ds i) undef) n).tmps = a'.tmps := by
          apply Array.ext
          · rw [putV_size, I.sz]
          · intro t h1 h2
            have e : ∀ (A : Array Value) (h : t < A.size), A[t] = A.getD t undef := fun A h => by simp [h]
            rw [e _ h1, e _ h2]
            by_cases hx : ∃ i, i < n ∧ ds i = t
            · obtain ⟨i, hi, rfl⟩ := hx
              exact putV_at a ds _ n hdz hdd i hi
            · have hx' : ∀ i, i < n → ds i ≠ t := fun i hi he => hx ⟨i, hi, he⟩
              rw [putV_far a ds _ n hx', I.far t hx']
        have e2 : (putV a ds (fun i => a'.tmps.getD (ds i) undef) n).defers = a'.defers := by rw [putV_defers, I.df]
        generalize putV a ds (fun i => a'.tmps.getD (ds i) undef) n = x at *
        cases x; cases a'
        simp only at e1 e2
        rw [e1, e2]
      have ht := tail (fun i => a'.tmps.getD (ds i) undef) W I.b (fun i hi => I.g i hi (hall i hi)) (fun i j hi hj hij b => I.ap i j hi hj hij (hall i hi) (hall j hj) b)
      rw [hv] at ht
      rw [Nat.zero_add]
      have hdl : (l.drop n).length = l.toArray.size - n := by simp
      have := wpAny_of_seq (md := .any) (Q' := Q) (ops := l.toArray) (l.drop n) n listed a' W (fun j => by simp [List.getElem?_drop]) (by rw [hdl, hl]; exact hq) ht
      rwa [hdl] at this
    | succ f ih =>
      intro listed a' W hcnt I
      obtain ⟨k, hk, hkf, hkl⟩ := cntL_hole (listed := listed) (n := n) (by omega)
      have hkr : k ∈ Region.ready .any l.toArray listed := by
        obtain ⟨o, ho, _, _, _, _, h5, _⟩ := hop k hk
        exact mem_ready.2 ⟨getD_in (by rw [I.inv.size]; omega) hkf, o, ho, fun e he hb => hkl _ (h5 e he hb)⟩
      rw [show f + 1 + (l.toArray.size - n) = (f + (l.toArray.size - n)) + 1 by omega]
      refine ⟨fun h0 => (by rw [h0] at hkr; cases hkr), fun i hi => ?_⟩
      have hin : i < n := by
        rcases Nat.lt_or_ge i n with h | h
        · exact h
        · exact absurd hi (tail_waits hs hc hn I.inv _ k rfl hk (getD_in (by rw [I.inv.size]; omega) hkf) i h)
      obtain ⟨hun, o', ho', hall'⟩ := mem_ready.1 hi
      obtain ⟨o, ho, hol, hg, hd, hz, _, _⟩ := hop i hin
      have : o' = o := Option.some.inj (ho'.symm.trans ho)
      subst this
      have hst := step i o' hin hol a' W I.b I.far fun j hj hw => by
        obtain ⟨oj, hoj, e, he, hb, hon⟩ := Region.waitsFor_spec hw
        have : oj = o' := Option.some.inj (hoj.symm.trans ho')
        subst this
        exact I.g j hj (by have := hall' e he hb; rwa [hon] at this)
      unfold wpOp
      rw [ho']
      simp only [Region.wanted, hg]
      simp only [if_true]
      refine .inl (hst.wp fun v W' hgd => ?_)
      obtain ⟨hb, hG, hf⟩ := hgd
      rw [hd]
      have hsz : i < listed.size := by rw [I.inv.size]; omega
      refine ih _ _ _ (by rw [cntL_set hsz (getD_both hun), if_pos hin]; omega) ⟨I.inv.set hi hin, I.b.trans (hb.mono I.b.size), by simp [Act.put, I.df], by simp [Act.put, I.sz], fun t ht => ?_, fun j hj hlj => ?_, fun j1 j2 h1 h2 h12 l1 l2 b hb1 => ?_⟩
      · rw [put_get_ne _ (ht i hin)]; exact I.far t ht
      · by_cases e : j = i
        · subst e; rw [put_get_eq _ (by rw [I.sz]; exact hz)]; exact hG
        · rw [put_get_ne _ (hdd i j hin hj (Ne.symm e))]
          rw [getD_set_ne false (Ne.symm e)] at hlj
          exact stab _ _ _ _ (I.g j hj hlj) hb
      · by_cases e1 : j1 = i
        · subst e1
          have e2 : j1 ≠ j2 := h12
          rw [put_get_eq _ (by rw [I.sz]; exact hz)] at hb1
          rw [put_get_ne _ (hdd j1 j2 hin h2 e2)]
          rw [getD_set_ne false e2] at l2
          intro hb2
          have := hlt _ _ _ _ (I.g j2 h2 l2) hb2
          have := hf b hb1
          omega
        · rw [put_get_ne _ (hdd i j1 hin h1 (Ne.symm e1))] at hb1
          rw [getD_set_ne false (Ne.symm e1)] at l1
          by_cases e2 : j2 = i
          · subst e2
            rw [put_get_eq _ (by rw [I.sz]; exact hz)]
            intro hb2
            have := hlt _ _ _ _ (I.g j1 h1 l1) hb1
            have := hf b hb2
            omega
          · rw [put_get_ne _ (hdd i j2 hin h2 (Ne.symm e2))]
            rw [getD_set_ne false (Ne.symm e2)] at l2
            exact I.ap j1 j2 h1 h2 h12 l1 l2 b hb1
  refine wp_region_any hm ?_
  have := H n (Array.replicate l.toArray.size false) a { w with drawn := w.drawn + 1 } (by rw [cntL_zero]; omega)
    ⟨⟨by simp, fun j oj _ hl => (by rw [getD_replicate_false] at hl; cases hl), fun t _ ht => getD_in (by simpa using ht) (getD_replicate_false _ _)⟩, ⟨rfl, rfl, rfl, Nat.le_refl _, fun _ _ => rfl⟩, rfl, rfl, fun _ _ => rfl,
      fun i _ h => (by rw [getD_replicate_false] at h; cases h), fun i j _ _ _ h => (by rw [getD_replicate_false] at h; cases h)⟩
  rwa [show n + (l.toArray.size - n) = l.toArray.size by omega] at this
end
end Go.Proofs.YtkjlafcnmniomaaDoor

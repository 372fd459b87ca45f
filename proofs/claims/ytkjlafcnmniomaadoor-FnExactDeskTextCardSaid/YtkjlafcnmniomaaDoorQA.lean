/- A region that draws its order: quiet operations and calls that make memory, one block made somewhere among them, one chain of operations (a store into that block) behind all. No statement is proved here; there are no conditions. -/
import Derived.Test.YtkjlafcnmniomaaDoorQT
namespace Go.Proofs.YtkjlafcnmniomaaDoor
set_option linter.unusedVariables false
set_option linter.unusedSimpArgs false
open Go.RowKit

section
variable {P : Program} {ops : Array Oper} {md : Region.Mode} {w : World} {n : Nat} {val : Nat → Value}

/-- The worlds that come from X. -/
def Cm (X : World) : World → Prop := fun w' => ∃ t, w' = more X t
/-- The operation leaves v in every world that comes from a world that comes from w. -/
def QAll (P : Program) (w : World) (o : Oper) (a : Act) (v : Value) : Prop := ∀ X, Cm w X → ∀ w', Cm X w' → o.quietAt P a (Cm X) w' v

/-- Operation number i comes up; number n is the block's. -/
def qV (P : Program) (ops : Array Oper) (w : World) (n : Nat) (val : Nat → Value) (i : Nat) (K : Act → Prop) (a : Act) : Prop :=
  match ops[i]? with
  | none => K a
  | some o => if Region.wanted o (yielded ops a.tmps) then (i = n ∨ QAll P w o a (val i)) ∧ K (a.put o.dst (val i)) else K (a.put o.dst undef)
theorem qV_mono {i : Nat} {a : Act} {K K' : Act → Prop} (h : ∀ a, K a → K' a) (hh : qV P ops w n val i K a) : qV P ops w n val i K' a := by
  unfold qV at *
  split
  · rename_i ho; simp only [ho] at hh; exact h _ hh
  · rename_i o ho
    simp only [ho] at hh
    split
    · rename_i hw; simp only [hw, if_true] at hh; exact ⟨hh.1, h _ hh.2⟩
    · rename_i hw; simp only [hw] at hh; exact h _ hh
def YV (P : Program) (ops : Array Oper) (w : World) (n : Nat) (val : Nat → Value) (i : Nat) (o : Oper) (v : Value) (a : Act) : Prop :=
  (Region.wanted o (yielded ops a.tmps) = true ∧ v = val i ∧ (i = n ∨ QAll P w o a v)) ∨ (Region.wanted o (yielded ops a.tmps) = false ∧ v = undef)
theorem YV.qV {i : Nat} {o : Oper} {v : Value} {a : Act} (hi : ops[i]? = some o) (hy : YV P ops w n val i o v a) {K : Act → Prop} (h : K (a.put o.dst v)) : qV P ops w n val i K a := by
  unfold Go.Proofs.YtkjlafcnmniomaaDoor.qV
  simp only [hi]
  rcases hy with ⟨hw, rfl, hv⟩ | ⟨hw, rfl⟩
  · simp only [hw, if_true]; exact ⟨hv, h⟩
  · simp only [hw, Bool.false_eq_true, if_false]; exact h
theorem yv_of_qV {i : Nat} {o : Oper} {a : Act} {K : Act → Prop} (hi : ops[i]? = some o) (h : qV P ops w n val i K a) : ∃ v, YV P ops w n val i o v a ∧ K (a.put o.dst v) := by
  unfold qV at h
  simp only [hi] at h
  by_cases hw : Region.wanted o (yielded ops a.tmps) = true
  · simp only [hw, if_true] at h
    exact ⟨_, .inl ⟨hw, rfl, h.1⟩, h.2⟩
  · simp only [hw] at h
    exact ⟨undef, .inr ⟨by simpa using hw, rfl⟩, h⟩
theorem qV_put {i j : Nat} {oi oj : Oper} {v : Value} (hj : ops[j]? = some oj) (hap : oi.apart ops oj = true)
    (hsi : ∀ cs b, oi.op ≠ .select cs b) (hsj : ∀ cs b, oj.op ≠ .select cs b) {K : Act → Prop} {a : Act}
    (hy : YV P ops w n val i oi v a) (h : qV P ops w n val j K (a.put oi.dst v)) :
    qV P ops w n val j (fun a' => YV P ops w n val i oi v a' ∧ K (a'.put oi.dst v)) a := by
  obtain ⟨h1, h2, h3⟩ := Oper.apart_spec hap
  have keep : ∀ (a : Act), YV P ops w n val i oi v a → ∀ u, YV P ops w n val i oi v (a.put oj.dst u) := fun a hy u => by
    have e := execOp_put oi hsi a oj.dst u h3
    have e2 := wanted_put oi a oj.dst u h3
    rcases hy with ⟨hw, hv, hq⟩ | ⟨hw, hv⟩
    · refine .inl ⟨by rw [e2]; exact hw, hv, ?_⟩
      rcases hq with hq | hq
      · exact .inl hq
      · refine .inr fun X hX w' hw' => ?_
        have := hq X hX w' hw'
        unfold Oper.quietAt at *
        rw [e]; exact this
    · exact .inr ⟨by rw [e2]; exact hw, hv⟩
  unfold qV at *
  simp only [hj] at *
  rw [wanted_put oj a oi.dst v h1] at h
  split
  · rename_i hw
    simp only [hw, if_true] at h
    obtain ⟨hq, hn⟩ := h
    refine ⟨?_, keep a hy _, by rw [← Act.put_comm a v _ h2]; exact hn⟩
    rcases hq with hq | hq
    · exact .inl hq
    · refine .inr fun X hX w' hw' => ?_
      have := hq X hX w' hw'
      unfold Oper.quietAt at *
      rwa [execOp_put oj hsj a oi.dst v h1] at this
  · rename_i hw
    simp only [hw] at h
    exact ⟨keep a hy _, by rw [← Act.put_comm a v undef h2]; exact h⟩

def wpAnyV (P : Program) (md : Region.Mode) (ops : Array Oper) (w : World) (n : Nat) (val : Nat → Value) (m x : Nat) (L : Array Bool → Act → Prop) : Nat → Array Bool → Act → Prop
  | 0, listed, a => L listed a
  | f + 1, listed, a => Region.ready md ops listed ≠ [] ∧ ∀ i ∈ Region.ready md ops listed, (i < m ∧ qV P ops w n val i (wpAnyV P md ops w n val m x L f (listed.setIfInBounds i true)) a) ∨ (m ≤ i ∧ x ∈ Region.ready md ops listed)

/-- Each of the first m but number x is waited for by a later one that is not x. -/
def sinkX (md : Region.Mode) (ops : Array Oper) (m x : Nat) : Bool :=
  (List.range m).all fun i => i == x || (List.range (m + 1)).any fun j => decide (i < j) && j != x && Region.waitsFor md ops j i
theorem tail_waitsX {m x : Nat} {listed : Array Bool} (hs : sinkX md ops m x = true) (hc : Region.chainB md ops m = true) (hm : m < ops.size) (inv : HeadInv md ops m listed) :
    ∀ (d i : Nat), m - i = d → i < m → i ≠ x → listed.getD i true = false → ∀ t, m ≤ t → t ∉ Region.ready md ops listed := by
  intro d
  induction d using Nat.strongRecOn with
  | _ d ih =>
    intro i hd hi hix hun t ht hr
    obtain ⟨_, ot, hot, hall⟩ := mem_ready.1 hr
    have htlt : t < ops.size := (Array.getElem?_eq_some_iff.1 hot).1
    by_cases htm : t = m
    · subst htm
      have h1 := List.all_eq_true.1 hs i (List.mem_range.2 hi)
      simp only [Bool.or_eq_true, beq_iff_eq] at h1
      obtain ⟨j, hj, hj2⟩ := List.any_eq_true.1 (h1.resolve_left hix)
      simp only [Bool.and_eq_true, decide_eq_true_eq, bne_iff_ne, ne_eq] at hj2
      obtain ⟨⟨hij, hjx⟩, hjw⟩ := hj2
      obtain ⟨oj, hoj, e, he, hb, hon⟩ := Region.waitsFor_spec hjw
      have hjle : j ≤ t := by have := List.mem_range.1 hj; omega
      by_cases hjt : j = t
      · subst hjt
        have : oj = ot := Option.some.inj (hoj.symm.trans hot)
        subst this
        have h2 := hall e he hb
        rw [hon, getD_both hun] at h2
        cases h2
      · cases hl : listed.getD j false with
        | true =>
          have h2 := inv.closed j oj hoj hl e he hb
          rw [hon, getD_both hun] at h2
          cases h2
        | false =>
          have hjs : j < listed.size := by rw [inv.size]; omega
          exact ih (t - j) (by omega) j rfl (by omega) hjx (getD_in hjs hl) t (Nat.le_refl _) hr
    · have h1 := List.all_eq_true.1 hc t (List.mem_range.2 htlt)
      simp only [Bool.or_eq_true, decide_eq_true_eq] at h1
      rcases h1 with h1 | h1
      · omega
      · obtain ⟨o', ho', e, he, hb, hon⟩ := Region.waitsFor_spec h1
        have : o' = ot := Option.some.inj (ho'.symm.trans hot)
        subst this
        have h2 := hall e he hb
        rw [hon, getD_both (inv.tail (t - 1) (by omega) (by omega))] at h2
        cases h2

theorem wpAnyV_first {m x i : Nat} {oi : Oper} {v : Value} {L : Array Bool → Act → Prop} (hi : ops[i]? = some oi) (hsel : ∀ (j : Nat) (o : Oper) cs b, ops[j]? = some o → o.op ≠ .select cs b)
    (hs : sinkX md ops m x = true) (hc : Region.chainB md ops m = true) (hm : m < ops.size) (him : i < m) (hdone : ∀ listed a, L listed a → ∀ j ∈ Region.ready md ops listed, m ≤ j) :
    ∀ (f : Nat) (listed : Array Bool) (a : Act), HeadInv md ops m listed →
      (∀ j oj, ops[j]? = some oj → j ≠ i → listed.getD j true = false → (∀ e ∈ oj.after, Region.binds md e = true → e.on ≠ i) → oi.apart ops oj = true) →
      i ∈ Region.ready md ops listed → YV P ops w n val i oi v a →
      wpAnyV P md ops w n val m x L f (listed.setIfInBounds i true) (a.put oi.dst v) → wpAnyV P md ops w n val m x L (f + 1) listed a := by
  intro f
  have low : ∀ (listed : Array Bool), HeadInv md ops m listed → i ∈ Region.ready md ops listed → ∀ j ∈ Region.ready md ops listed, j < m ∨ (m ≤ j ∧ x ∈ Region.ready md ops listed) := fun listed inv hr j hj => by
    rcases Nat.lt_or_ge j m with h | h
    · exact .inl h
    · by_cases hix : i = x
      · subst hix; exact .inr ⟨h, hr⟩
      · exact absurd hj (tail_waitsX hs hc hm inv _ i rfl him hix (mem_ready.1 hr).1 j h)
  induction f with
  | zero =>
    intro listed a inv _ hr hy H
    refine ⟨fun h => (by rw [h] at hr; cases hr), fun j hj => ?_⟩
    rcases low listed inv hr j hj with hjm | hjm
    · refine .inl ⟨hjm, ?_⟩
      by_cases hji : j = i
      · subst hji; exact hy.qV hi H
      · have := hdone _ _ H j (ready_mono hj hji)
        omega
    · exact .inr hjm
  | succ f ih =>
    intro listed a inv hfree hr hy H
    refine ⟨fun h => (by rw [h] at hr; cases hr), fun j hj => ?_⟩
    rcases low listed inv hr j hj with hjm | hjm
    · refine .inl ⟨hjm, ?_⟩
      by_cases hji : j = i
      · subst hji; exact hy.qV hi H
      · have h1 := ((H.2 j (ready_mono hj hji)).resolve_right fun h => by omega).2
        obtain ⟨hjun, oj, hoj, hall⟩ := mem_ready.1 hj
        have hnot : ∀ e ∈ oj.after, Region.binds md e = true → e.on ≠ i := fun e he hb heq => by
          have h1 := hall e he hb
          rw [heq, getD_both (mem_ready.1 hr).1] at h1
          cases h1
        have h2 := qV_put hoj (hfree j oj hoj hji hjun hnot) (fun cs b => hsel i oi cs b hi) (fun cs b => hsel j oj cs b hoj) hy h1
        refine qV_mono (fun a' h3 => ih (listed.setIfInBounds j true) a' (inv.set hj hjm) (fun k ok hk hki hun hno => hfree k ok hk hki ?_ hno) (ready_mono hr (Ne.symm hji)) h3.1 ?_) h2
        · by_cases hjk : j = k
          · subst hjk; exact hjun
          · rw [getD_set_ne true hjk] at hun; exact hun
        · rw [Array.setIfInBounds_comm _ _ hji]
          exact h3.2
    · exact .inr hjm

/-- The walk in the order of the text, with values that are named. -/
def wpV (P : Program) (ops : Array Oper) (w : World) (n : Nat) (val : Nat → Value) (Q : Act → Prop) : List Oper → Nat → Act → Prop
  | [], _, a => Q a
  | o :: l, k, a => if Region.wanted o (yielded ops a.tmps) then (k = n ∨ QAll P w o a (val k)) ∧ wpV P ops w n val Q l (k + 1) (a.put o.dst (val k)) else wpV P ops w n val Q l (k + 1) (a.put o.dst undef)

theorem wpAnyV_lex {m x g : Nat} {Lq : Act → Prop} (hsel : Region.noSelect ops = true) (hs : sinkX md ops m x = true) (hc : Region.chainB md ops m = true) (hm : m < ops.size) :
    ∀ (l : List Oper) (k : Nat) (listed : Array Bool) (a : Act), (∀ j, j < l.length → l[j]? = ops[k + j]?) → k + l.length = m → HeadInv md ops m listed → (∀ j, j < k → listed.getD j false = true) →
    Region.lexHead md ops g l.length k listed = true → wpV P ops w n val Lq l k a →
    wpAnyV P md ops w n val m x (fun listed' a' => Region.seqB md ops g m listed' = true ∧ (∀ j, j < m → listed'.getD j false = true) ∧ Lq a') l.length listed a
  | [], k, listed, a, _, hk, _, hd, hB, h => by
    have : k = m := by simpa using hk
    subst this
    exact ⟨by simpa [Region.lexHead] using hB, hd, h⟩
  | o :: l, k, listed, a, hl, hk, inv, hd, hB, h => by
    have h0 : ops[k]? = some o := by simpa using (hl 0 (by simp)).symm
    simp only [List.length_cons, Region.lexHead, Bool.and_eq_true] at hB
    obtain ⟨⟨hr, hf⟩, hB'⟩ := hB
    have hkn : k < m := by simp only [List.length_cons] at hk; omega
    have hr' : k ∈ Region.ready md ops listed := by simpa using hr
    have hst : qV P ops w n val k (wpV P ops w n val Lq l (k + 1)) a := by
      unfold qV; simp only [h0]
      unfold wpV at h
      exact h
    obtain ⟨v, hy, hK⟩ := yv_of_qV h0 hst
    refine wpAnyV_first h0 (Region.noSelect_spec hsel) hs hc hm hkn (fun listed' a' hL => seqB_ready hL.1) l.length listed a inv (Region.free_spec h0 hf) hr' hy
      (wpAnyV_lex hsel hs hc hm l (k + 1) _ _ (fun j hj => by have := hl (j + 1) (by simp; omega); simpa [Nat.add_assoc, Nat.add_comm 1 j] using this) (by simp only [List.length_cons] at hk; omega) (inv.set hr' hkn) (fun j hj => ?_) hB' hK)
    by_cases e : j = k
    · subst e
      have : j < listed.size := by rw [inv.size]; omega
      simp [this]
    · exact getD_set_true (hd j (by omega))

theorem cm_trans {X Y Z : World} (h : Cm X Y) (k : Cm Y Z) : Cm X Z := by
  obtain ⟨t, rfl⟩ := h
  obtain ⟨u, rfl⟩ := k
  exact more_of ((below_more X t).trans ((below_more _ u).mono (size_more X t)))
theorem cm_refl (X : World) : Cm X X := more_of (Below.refl _ _)
theorem cm_alloc {X Y : World} (h : Cm X Y) (o : Obj) : Cm X (Y.alloc o) := by
  obtain ⟨t, rfl⟩ := h
  exact more_of ((below_more X t).alloc (size_more X t) o)

/-- Which operations number x waits for. -/
def depB (md : Region.Mode) (ops : Array Oper) (o : Oper) : Array Bool := (Array.range ops.size).map fun j => o.after.any fun e => Region.binds md e && e.on == j
theorem depB_no {x j : Nat} {ox : Oper} {listed : Array Bool} (hx : ops[x]? = some ox) (hr : x ∈ Region.ready md ops listed) (hj : j < ops.size) (hun : listed.getD j true = false) : (depB md ops ox).getD j true = false := by
  obtain ⟨_, o, ho, hall⟩ := mem_ready.1 hr
  have : o = ox := Option.some.inj (ho.symm.trans hx)
  subst this
  have e : (depB md ops o).getD j true = o.after.any fun e => Region.binds md e && e.on == j := by simp [depB, hj]
  rw [e]
  apply Bool.eq_false_iff.2
  intro h
  obtain ⟨e, he, hb⟩ := Array.any_eq_true'.1 h
  simp only [Bool.and_eq_true, beq_iff_eq] at hb
  have h2 := hall e he hb.1
  rw [hb.2, getD_both hun] at h2
  cases h2

/-- The operation asks nothing of the world. -/
def PureO (P : Program) (o : Oper) : Prop := o.guard = none ∧ ∀ (a : Act) (C : World → Prop) (w1 : World) (v : Value), o.quietAt P a C w1 v → ∀ w2, (execOp a.eval o).run P w2 = .ok (.value v) w2
theorem pure_extract (P : Program) (o : Oper) (x : Operand) (k : Nat) (ho : o.op = .extract x k) (hg : o.guard = none) : PureO P o := by
  refine ⟨hg, fun a C w1 v h w2 => ?_⟩
  unfold Oper.quietAt at h
  simp only [execOp, ho] at h ⊢
  generalize a.eval x = y at h ⊢
  cases y with
  | tuple vs =>
    cases hk : vs[k]? with
    | none => simp [hk, Oper.quietUpon, go_sem] at h
    | some u =>
      simp [hk, Oper.quietUpon, go_sem] at h ⊢
      exact h
  | _ => simp [Oper.quietUpon, go_sem] at h

/-- Behind the block. -/
theorem wpAny_of_V2 {m x g : Nat} {L : Array Bool → Act → Prop} {Q' : Exit → Act → World → Prop} {X : World} {ox : Oper} (hx : ops[x]? = some ox) (hxm : x < m) (hxn : x ≠ n) (hpx : PureO P ox) (hsel : Region.noSelect ops = true) (hfx : Region.free md ops (depB md ops ox) x = true)
    (hQ : ∀ c a v w, Q' (.panic c) (Act.put a ox.dst v) w → Q' (.panic c) a w)
    (hX : Cm w X) (hnm : n < ops.size) (hL : ∀ listed a w', Cm X w' → L listed a → wpAny P md ops Q' g listed a w') :
    ∀ (f : Nat) (listed : Array Bool) (a : Act) (w' : World), listed.size = ops.size → Cm X w' → listed.getD n false = true → wpAnyV P md ops w n val m x L f listed a → wpAny P md ops Q' (f + g) listed a w'
  | 0, listed, a, w', _, hw, _, h => by rw [Nat.zero_add]; exact hL _ _ _ hw h
  | f + 1, listed, a, w', hz, hw, hl, h => by
    rw [show f + 1 + g = (f + g) + 1 by omega]
    by_cases hxr : x ∈ Region.ready md ops listed
    · have hq := ((h.2 x hxr).resolve_right fun h => by omega).2
      have hwt : Region.wanted ox (yielded ops a.tmps) = true := by unfold Region.wanted; rw [hpx.1]
      unfold qV at hq
      simp only [hx, hwt, if_true] at hq
      have hy : Yields P ops ox (val x) a := .inl ⟨hwt, hpx.2 a _ _ _ ((hq.1.resolve_left hxn) X hX w' hw)⟩
      refine wpAny_first hx (Region.noSelect_spec hsel) (fun c a w h => hQ c a (val x) w h) (f + g) listed a w' (fun j oj hoj hjx hun hno => Region.free_spec hx hfx j oj hoj hjx ?_ hno) hxr hy ?_
      · exact depB_no hx hxr (Array.getElem?_eq_some_iff.1 hoj).1 hun
      · refine wpAny_of_V2 hx hxm hxn hpx hsel hfx hQ hX hnm hL f _ _ w' (by simpa using hz) hw ?_ hq.2
        rw [getD_set_ne false hxn]; exact hl
    · refine ⟨fun h0 => absurd h0 h.1, fun i hi => ?_⟩
      have hin : i ≠ n := by
        intro e
        subst e
        have h1 := (mem_ready.1 hi).1
        rw [Array.getD_eq_getD_getElem?, Array.getElem?_eq_getElem (by omega)] at hl h1
        simp at hl h1
        rw [hl] at h1; cases h1
      have hq := ((h.2 i hi).resolve_right fun h => hxr h.2).2
      have hq2 : qOp P ops (Cm X) i (wpAnyV P md ops w n val m x L f (listed.setIfInBounds i true)) a := by
        unfold qV at hq
        unfold qOp
        split
        · rename_i ho; simp only [ho] at hq; exact hq
        · rename_i o ho
          simp only [ho] at hq
          split
          · rename_i hw; simp only [hw, if_true] at hq
            exact ⟨val i, (hq.1.resolve_left hin) X hX, hq.2⟩
          · rename_i hw; simp only [hw] at hq; exact hq
      refine wpOp_of_qOp hw (fun a' w'' hw'' h' => wpAny_of_V2 hx hxm hxn hpx hsel hfx hQ hX hnm hL f _ a' w'' (by simpa using hz) hw'' ?_ h') hq2
      rw [getD_set_ne false hin]; exact hl
/-- Ahead of the block. -/
theorem wpAny_of_V1 {m x g : Nat} {L : Value → Array Bool → Act → Prop} {Q' : Exit → Act → World → Prop} {on ox : Oper} (hx : ops[x]? = some ox) (hxm : x < m) (hxn : x ≠ n) (hpx : PureO P ox) (hsel : Region.noSelect ops = true) (hfx : Region.free md ops (depB md ops ox) x = true)
    (hQ : ∀ c a v w, Q' (.panic c) (Act.put a ox.dst v) w → Q' (.panic c) a w)
    (hn : ops[n]? = some on) (hg : on.guard = none) {obj : Obj} (hnm2 : n < m)
    (hal : ∀ (a : Act) (W : World), (execOp a.eval on).run P W = .ok (.value (.pointer (some ⟨W.heap.size, 0, none⟩))) (W.alloc obj))
    (hL : ∀ W w' listed a, Cm w W → Cm (W.alloc obj) w' → L (.pointer (some ⟨W.heap.size, 0, none⟩)) listed a → wpAny P md ops Q' g listed a w')
    (hLn : ∀ p listed a, L p listed a → listed.getD n false = true) :
    ∀ (f : Nat) (listed : Array Bool) (a : Act) (w' : World), listed.size = ops.size → Cm w w' → listed.getD n false = false →
      (∀ p, wpAnyV P md ops w n (fun i => if i = n then p else val i) m x (L p) f listed a) → wpAny P md ops Q' (f + g) listed a w'
  | 0, listed, a, w', _, hw, hl, h => by
    have h1 := hLn _ _ _ (h (.pointer none))
    rw [hl] at h1; cases h1
  | f + 1, listed, a, w', hz, hw, hl, h => by
    have hnm : n < ops.size := (Array.getElem?_eq_some_iff.1 hn).1
    rw [show f + 1 + g = (f + g) + 1 by omega]
    by_cases hxr : x ∈ Region.ready md ops listed
    · have hwt : Region.wanted ox (yielded ops a.tmps) = true := by unfold Region.wanted; rw [hpx.1]
      have hq : ∀ p, (x = n ∨ QAll P w ox a (val x)) ∧ wpAnyV P md ops w n (fun i => if i = n then p else val i) m x (L p) f (listed.setIfInBounds x true) (a.put ox.dst (val x)) := fun p => by
        have hq := (((h p).2 x hxr).resolve_right fun h => by omega).2
        unfold qV at hq
        simp only [hx, hwt, if_true, if_neg hxn] at hq
        exact hq
      have hy : Yields P ops ox (val x) a := .inl ⟨hwt, hpx.2 a _ _ _ (((hq undef).1.resolve_left hxn) w (cm_refl w) w' hw)⟩
      refine wpAny_first hx (Region.noSelect_spec hsel) (fun c a w h => hQ c a (val x) w h) (f + g) listed a w' (fun j oj hoj hjx hun hno => Region.free_spec hx hfx j oj hoj hjx ?_ hno) hxr hy ?_
      · exact depB_no hx hxr (Array.getElem?_eq_some_iff.1 hoj).1 hun
      · refine wpAny_of_V1 hx hxm hxn hpx hsel hfx hQ hn hg hnm2 hal hL hLn f _ _ w' (by simpa using hz) hw ?_ fun p => (hq p).2
        rw [getD_set_ne false hxn]; exact hl
    · refine ⟨fun h0 => absurd h0 (h undef).1, fun i hi => ?_⟩
      by_cases hin : i = n
      · subst hin
        have hq := (((h (.pointer (some ⟨w'.heap.size, 0, none⟩))).2 i hi).resolve_right fun h => hxr h.2).2
        unfold qV at hq
        simp only [hn] at hq
        have hwt : Region.wanted on (yielded ops a.tmps) = true := by unfold Region.wanted; rw [hg]
        simp only [hwt, if_true] at hq
        unfold wpOp
        simp only [hn, hwt, if_true]
        refine .inl ?_
        unfold Oper.wp
        rw [hal a w']
        show wpAny P md ops Q' (f + g) (listed.setIfInBounds i true) (a.put on.dst (.pointer (some ⟨w'.heap.size, 0, none⟩))) (w'.alloc obj)
        refine wpAny_of_V2 hx hxm hxn hpx hsel hfx hQ (cm_alloc hw obj) hnm (fun listed' a' w'' hw'' hL' => hL w' w'' listed' a' hw hw'' hL') f _ _ _ (by simpa using hz) (cm_refl _) ?_ hq.2
        have : i < listed.size := by omega
        simp [this]
      · have hq2 : qOp P ops (Cm w) i (fun a' => ∀ p, wpAnyV P md ops w n (fun i => if i = n then p else val i) m x (L p) f (listed.setIfInBounds i true) a') a := by
          unfold qOp
          cases ho : ops[i]? with
          | none =>
            simp only
            intro p
            have hq := (((h p).2 i hi).resolve_right fun h => hxr h.2).2
            unfold qV at hq
            simp only [ho] at hq
            exact hq
          | some o =>
            simp only
            split
            · rename_i hwt
              have key : ∀ p, (i = n ∨ QAll P w o a (val i)) ∧ wpAnyV P md ops w n (fun i => if i = n then p else val i) m x (L p) f (listed.setIfInBounds i true) (a.put o.dst (val i)) := fun p => by
                have hq := (((h p).2 i hi).resolve_right fun h => hxr h.2).2
                unfold qV at hq
                simp only [ho, hwt, if_true, if_neg hin] at hq
                exact hq
              exact ⟨val i, ((key undef).1.resolve_left hin) w (cm_refl w), fun p => (key p).2⟩
            · rename_i hwt
              intro p
              have hq := (((h p).2 i hi).resolve_right fun h => hxr h.2).2
              unfold qV at hq
              simp only [ho, hwt] at hq
              exact hq
        refine wpOp_of_qOp hw (fun a' w'' hw'' h' => wpAny_of_V1 hx hxm hxn hpx hsel hfx hQ hn hg hnm2 hal hL hLn f _ a' w'' (by simpa using hz) hw'' ?_ h') hq2
        rw [getD_set_ne false hin]; exact hl

/-! ### the values, from the frame behind the region -/
def dstB : List Oper → List Nat → Nat → Bool
  | [], _, _ => true
  | o :: l, ds, z => match o.dst with | some d => decide (d < z) && !ds.contains d && dstB l (d :: ds) z | none => false
theorem frame_keeps {C : World → Prop} {aF : Act} : ∀ {l : List Oper} {ds : List Nat} {a : Act}, dstB l ds a.tmps.size = true → wpQuiet P ops C (fun a' => a' = aF) l a → ∀ d ∈ ds, aF.tmps.getD d undef = a.tmps.getD d undef
  | [], ds, a, _, h, d, _ => by
    have : a = aF := h
    rw [this]
  | o :: l, ds, a, hB, h, d, hd => by
    unfold dstB at hB
    cases hdst : o.dst with
    | none => rw [hdst] at hB; cases hB
    | some d0 =>
      rw [hdst] at hB
      simp only [Bool.and_eq_true, decide_eq_true_eq, Bool.not_eq_true'] at hB
      obtain ⟨⟨h1, h2⟩, h3⟩ := hB
      have hne : d0 ≠ d := by
        intro e
        subst e
        rw [List.contains_eq_mem] at h2
        simp at h2
        exact h2 hd
      have key : ∀ v, wpQuiet P ops C (fun a' => a' = aF) l (a.put (some d0) v) → aF.tmps.getD d undef = a.tmps.getD d undef := fun v hv => by
        have := frame_keeps (ds := d0 :: ds) (a := a.put (some d0) v) (by simpa [Act.put] using h3) hv d (by simp [hd])
        rw [this]
        simp [Act.put, Array.getElem?_setIfInBounds, hne]
      unfold wpQuiet at h
      rw [hdst] at h
      split at h
      · obtain ⟨v, _, hv⟩ := h
        rw [hdst] at hv
        exact key v hv
      · exact key undef h
theorem frame_val {C : World → Prop} {aF : Act} {l : List Oper} {ds : List Nat} {a : Act} {d : Nat} {v : Value} (hd : d < a.tmps.size) (hB : dstB l (d :: ds) a.tmps.size = true) (h : wpQuiet P ops C (fun a' => a' = aF) l (a.put (some d) v)) : v = aF.tmps.getD d undef := by
  have := frame_keeps (ds := d :: ds) (a := a.put (some d) v) (by simpa [Act.put] using hB) h d (by simp)
  rw [this]
  simp [Act.put, hd]
theorem wpV_of_quiet {aF : Act} (Q : Act → Prop) (hQ : Q aF) {dn : Nat} {on : Oper} (p : Value) :
    ∀ (l : List Oper) (k : Nat) (ds : List Nat) (a : Act), k + l.length = n → dstB l ds a.tmps.size = true →
      (∀ i, k ≤ i → i < n → ∀ o, l[i - k]? = some o → val i = aF.tmps.getD (o.dst.getD 0) undef) →
      (∀ X, Cm w X → wpQuiet P ops (Cm X) (fun a' => a' = aF) l a) → wpV P ops w n (fun i => if i = n then p else val i) (fun a' => Q a') l k a
  | [], k, ds, a, _, _, _, h => by
    have : a = aF := h w (cm_refl w)
    rw [this]; exact hQ
  | o :: l, k, ds, a, hk, hB, hv, h => by
    have hB0 := hB
    unfold dstB at hB
    cases hdst : o.dst with
    | none => rw [hdst] at hB; cases hB
    | some d0 =>
      rw [hdst] at hB
      simp only [Bool.and_eq_true, decide_eq_true_eq, Bool.not_eq_true'] at hB
      obtain ⟨⟨h1, h2⟩, h3⟩ := hB
      have hkn : k ≠ n := by simp at hk; omega
      have hval : val k = aF.tmps.getD d0 undef := by have := hv k (Nat.le_refl _) (by simp at hk; omega) o (by simp); rw [hdst] at this; exact this
      have hv' : ∀ i, k + 1 ≤ i → i < n → ∀ o, l[i - (k + 1)]? = some o → val i = aF.tmps.getD (o.dst.getD 0) undef := fun i hi1 hi2 o' ho' => hv i (by omega) hi2 o' (by
        rw [show i - k = (i - (k + 1)) + 1 by omega]; simpa using ho')
      unfold wpV
      split
      · rename_i hw
        refine ⟨.inr fun X hX => ?_, ?_⟩
        · have hX' := h X hX
          unfold wpQuiet at hX'
          rw [if_pos hw] at hX'
          obtain ⟨v, hq, hr⟩ := hX'
          rw [hdst] at hr
          rw [hval, ← frame_val h1 h3 hr]
          exact hq
        · refine wpV_of_quiet Q hQ (dn := dn) (on := on) p l (k + 1) (d0 :: ds) _ (by simp at hk ⊢; omega) (by rw [hdst]; simpa [Act.put] using h3) hv' fun X hX => ?_
          have hX' := h X hX
          unfold wpQuiet at hX'
          rw [if_pos hw] at hX'
          obtain ⟨v, hq, hr⟩ := hX'
          rw [hdst] at hr ⊢
          rw [hval, ← frame_val h1 h3 hr]
          exact hr
      · rename_i hw
        refine wpV_of_quiet Q hQ (dn := dn) (on := on) p l (k + 1) (d0 :: ds) _ (by simp at hk ⊢; omega) (by rw [hdst]; simpa [Act.put] using h3) hv' fun X hX => ?_
        have hX' := h X hX
        unfold wpQuiet at hX'
        rw [if_neg hw] at hX'
        exact hX'
theorem wpV_app (Q : Act → Prop) : ∀ (l : List Oper) (k : Nat) (a : Act) (o : Oper), k + l.length = n → o.guard = none → (∀ a', Q a' → True) →
    wpV P ops w n val (fun a' => Q (a'.put o.dst (val n))) l k a → wpV P ops w n val Q (l ++ [o]) k a
  | [], k, a, o, hk, hg, _, h => by
    have hkn : k = n := by simpa using hk
    subst hkn
    have hwt : Region.wanted o (yielded ops a.tmps) = true := by unfold Region.wanted; rw [hg]
    show wpV P ops w k val Q [o] k a
    unfold wpV
    rw [if_pos hwt]
    exact ⟨.inl rfl, h⟩
  | x :: l, k, a, o, hk, hg, ht, h => by
    show wpV P ops w n val Q (x :: (l ++ [o])) k a
    unfold wpV at h ⊢
    split
    · rename_i hw
      rw [if_pos hw] at h
      exact ⟨h.1, wpV_app Q l (k + 1) _ o (by simp at hk ⊢; omega) hg ht h.2⟩
    · rename_i hw
      rw [if_neg hw] at h
      exact wpV_app Q l (k + 1) _ o (by simp at hk ⊢; omega) hg ht h

/-- What is asked of the region: number n makes a block, number x is a component of a result, what stands behind n is one chain. -/
def blkB (md : Region.Mode) (ops : Array Oper) (n x : Nat) : Bool :=
  Region.noSelect ops && decide (n + 1 < ops.size) && decide (x < n) && sinkX md ops (n + 1) x && Region.chainB md ops (n + 1) && Region.lexHead md ops (ops.size - (n + 1)) (n + 1) 0 (Array.replicate ops.size false) && (match ops[x]? with | some ox => Region.free md ops (depB md ops ox) x | none => false)

theorem wp_region_blk {id : Nat} {Q : Exit → Act → World → Prop} {a : Act} {l : List Oper} (n x dn : Nat) (on ox : Oper) (obj : Obj) (hm : P.follows .mixedOrders = true) (hB : blkB .any l.toArray n x = true)
    (hn : l[n]? = some on) (hg : on.guard = none) (hdn : on.dst = some dn) (hal : ∀ (a : Act) (W : World), (execOp a.eval on).run P W = .ok (.value (.pointer (some ⟨W.heap.size, 0, none⟩))) (W.alloc obj))
    (hx : l[x]? = some ox) (hpx : PureO P ox) (hQ : ∀ c a v w, Q (.panic c) (Act.put a ox.dst v) w → Q (.panic c) a w)
    (hD : dstB (l.take n) [] a.tmps.size = true)
    (h : ∃ aF, (∀ X, (∃ t, X = more w t) → wpQuiet P l.toArray (fun w' => ∃ t, w' = more X t) (fun a' => a' = aF) (l.take n) a) ∧
      ∀ t1 t2, wpList P l.toArray Q (l.drop (n + 1)) (aF.put (some dn) (.pointer (some ⟨(more w t1).heap.size, 0, none⟩))) (more ((more w t1).alloc obj) t2)) : (Code.region id l.toArray true).wp P Q a w := by
  obtain ⟨aF, h, hT⟩ := h
  simp only [blkB, Bool.and_eq_true, decide_eq_true_eq] at hB
  obtain ⟨⟨⟨⟨⟨⟨hsel, hsz⟩, hxn⟩, hs⟩, hc⟩, hlex⟩, hfx⟩ := hB
  have hx0 : l.toArray[x]? = some ox := by simpa using hx
  rw [hx0] at hfx
  simp only at hfx
  have hsz' : n + 1 < l.length := by simpa using hsz
  have htl : (l.take (n + 1)).length = n + 1 := by simp; omega
  have hdl : (l.drop (n + 1)).length = l.toArray.size - (n + 1) := by simp
  have inv0 : HeadInv .any l.toArray (n + 1) (Array.replicate l.toArray.size false) :=
    ⟨by simp, fun j oj _ hl => (by rw [getD_replicate_false] at hl; cases hl), fun t _ ht => getD_in (by simpa using ht) (getD_replicate_false _ _)⟩
  have htk : l.take (n + 1) = l.take n ++ [on] := by
    rw [List.take_add_one, hn]; rfl
  let val : Nat → Value := fun i => aF.tmps.getD (((l[i]?.bind (·.dst))).getD 0) undef
  have H : ∀ p, wpAnyV P .any l.toArray w n (fun i => if i = n then p else val i) (n + 1) x (fun listed' a' => Region.seqB .any l.toArray (l.toArray.size - (n + 1)) (n + 1) listed' = true ∧ (∀ j, j < n + 1 → listed'.getD j false = true) ∧ a' = aF.put (some dn) p) (n + 1) (Array.replicate l.toArray.size false) a := fun p => by
    have hV : wpV P l.toArray w n (fun i => if i = n then p else val i) (fun a' => a' = aF.put (some dn) p) (l.take (n + 1)) 0 a := by
      rw [htk]
      refine wpV_app _ (l.take n) 0 a on (by simp; omega) hg (fun _ _ => trivial) ?_
      rw [hdn]
      simp only [if_true]
      refine wpV_of_quiet (fun a' => a'.put (some dn) p = aF.put (some dn) p) rfl (dn := dn) (on := on) p (l.take n) 0 [] a (by simp; omega) hD (fun i _ hi o ho => ?_) h
      show aF.tmps.getD (((l[i]?.bind (·.dst))).getD 0) undef = _
      rw [Nat.sub_zero, List.getElem?_take_of_lt hi] at ho
      rw [ho]; rfl
    have := wpAnyV_lex (md := .any) (P := P) (w := w) (n := n) (x := x) (val := fun i => if i = n then p else val i) (g := l.toArray.size - (n + 1)) hsel hs hc hsz (l.take (n + 1)) 0 (Array.replicate l.toArray.size false) a (fun j hj => by
      have hj' : j < n + 1 := by rw [htl] at hj; exact hj
      simp [hj']) (by simpa using htl) inv0 (fun j hj => absurd hj (by omega)) (by rw [htl]; exact hlex) hV
    rwa [htl] at this
  refine wp_region_any hm ?_
  have := wpAny_of_V1 (md := .any) (w := w) (Q' := Q) (g := l.toArray.size - (n + 1)) (obj := obj) (L := fun p listed' a' => Region.seqB .any l.toArray (l.toArray.size - (n + 1)) (n + 1) listed' = true ∧ (∀ j, j < n + 1 → listed'.getD j false = true) ∧ a' = aF.put (some dn) p)
    (show l.toArray[x]? = some ox by simpa using hx) (by omega) (by omega) hpx hsel hfx hQ (show l.toArray[n]? = some on by simpa using hn) hg (by omega) hal
    (fun W w' listed a' hW hw' hL => by
      obtain ⟨t1, rfl⟩ := hW
      obtain ⟨t2, rfl⟩ := hw'
      obtain ⟨h1, _, h2⟩ := hL
      subst h2
      have := wpAny_of_seq (md := .any) (Q' := Q) (l.drop (n + 1)) (n + 1) listed _ _ (fun j => by simp [List.getElem?_drop]) (by rw [hdl]; exact h1) (hT t1 t2)
      rwa [hdl] at this)
    (fun p listed a' hL => hL.2.1 n (by omega)) (n + 1) (Array.replicate l.toArray.size false) a { w with drawn := w.drawn + 1 } (by simp) (more_of ⟨rfl, rfl, rfl, Nat.le_refl _, fun _ _ => rfl⟩) (getD_replicate_false _ _) H
  rw [show n + 1 + (l.toArray.size - (n + 1)) = l.toArray.size by simp; omega] at this
  exact this
end
theorem blk_cell (W t1 t2 : World) (cs : Array Value) (T : TypeId) (j : Nat) {v : Value} (h : cs[j]? = some v) : (more ((more W t1).alloc (.cells cs T)) t2).cell? ⟨(more W t1).heap.size, j, none⟩ = some v :=
  (cell_more _ t2 _ (by simp)).trans (by simp [go_sem, h])
theorem blk_froz (W t1 t2 : World) (cs : Array Value) (T : TypeId) (j : Nat) : (more ((more W t1).alloc (.cells cs T)) t2).frozen? ⟨(more W t1).heap.size, j, none⟩ = false :=
  (frozen_more _ t2 _ (by simp)).trans (by simp [go_sem])
theorem blk_lt (W t1 t2 : World) (o : Obj) : (more W t1).heap.size < (more ((more W t1).alloc o) t2).heap.size := by
  have := size_more ((more W t1).alloc o) t2; simp at this; omega
end Go.Proofs.YtkjlafcnmniomaaDoor

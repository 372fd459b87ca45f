/- Words for maps of whatever elements: what a map holds, as a function of the key. No statement is proved here; there are no conditions. -/
import Derived.Test.YtlbkfhdnhalpbaaGreatMem
import Derived.Maps.OwnSet
import Derived.Maps.Ext
namespace Go.Proofs.YtlbkfhdnhalpbaaGreat
set_option linter.unusedVariables false
set_option linter.unusedSimpArgs false
open Go.RowKit Go.Maps
open Go.ChangeMaps Go.MapKept Go.WideShapes

/-- How an element reads: as itself. -/
def heldV (v : Value) : Option (DataW Value × List MemPlace) := some (.held v, [])

theorem length_inj {α : Type} [DecidableEq α] : ∀ {l U : List α}, l.Pairwise (fun a b => a ≠ b) → (∀ x ∈ l, x ∈ U) → l.length ≤ U.length
  | [], _, _, _ => Nat.zero_le _
  | x :: r, U, hp, hm => by
    have hp' := List.pairwise_cons.1 hp
    have hx := hm x (by simp)
    have h1 : (U.erase x).length = U.length - 1 := List.length_erase_of_mem hx
    have h2 := length_inj (l := r) (U := U.erase x) hp'.2 fun y hy => (List.mem_erase_of_ne (Ne.symm (hp'.1 y hy))).2 (hm y (by simp [hy]))
    have h3 : 1 ≤ U.length := List.length_pos_of_mem hx
    simp only [List.length_cons]
    omega

/-- Block b is a map that holds f, with keys of U alone. -/
def MapV (P : Program) (k : TypeId) (w : World) (b : Nat) (U : List Lit) (f : Lit → Option Value) : Prop :=
  ∃ D : DataW Value, w.ownsMap P k heldV b U.length D ∧ (∀ l, WideAt.IsKeyLit l → has D l = (f l).isSome ∧ ∀ z, D.atKey l (.held z) = .held ((f l).getD z)) ∧ ∀ l, has D l = true → l ∈ U

section
variable {P : Program} {k : TypeId} {w w' : World} {b : Nat} {U : List Lit} {f : Lit → Option Value}
theorem MapV.lt (h : MapV P k w b U f) : b < w.heap.size := let ⟨_, h, _⟩ := h; h.lt
theorem ownsMap_lower {n m : Nat} {D : DataW Value} {R : Value → Option (DataW Value × List MemPlace)} (h : w.ownsMap P k R b n D) (hs : size D ≤ m) : w.ownsMap P k R b m D := by
  obtain ⟨es, clock, hb, F, _, hD⟩ := h
  refine ⟨es, clock, hb, F, ?_, hD⟩
  rw [hD] at hs
  simpa [Maps.size, length_sorted] using hs
theorem MapV.made (P : Program) (k : TypeId) (w : World) (U : List Lit) : MapV P k (w.alloc (.map #[] 0)) w.heap.size U (fun _ => none) := by
  refine ⟨.map [], (World.ownsMap_made w P k heldV).mono (Nat.zero_le _), fun l hl => ⟨rfl, fun z => rfl⟩, fun l h => by simp [has] at h⟩
theorem MapV.frm {S : Nat → Prop} (h : MapV P k w b U f) (hf : Frm S w w') (hn : ¬ S b) : MapV P k w' b U f := by
  obtain ⟨D, hD, h1, h2⟩ := h
  refine ⟨D, ?_, h1, h2⟩
  have hlt := hD.lt
  obtain ⟨es, clock, hb, r⟩ := hD
  exact ⟨es, clock, (hf.block b hlt hn).trans hb, r⟩
theorem MapV.below (h : MapV P k w b U f) (hb : Below w.heap.size w w') : MapV P k w' b U f := h.frm (Frm.of_below hb) id
theorem MapV.alloc (h : MapV P k w b U f) (o : Obj) : MapV P k (w.alloc o) b U f := h.below ((Below.refl _ _).alloc (Nat.le_refl _) o)
theorem MapV.drew (h : MapV P k w b U f) : MapV P k w.drew b U f := h
theorem MapV.drewN (h : MapV P k w b U f) (n : Nat) : MapV P k (w.drewN n) b U f := h
theorem heldV_inj {v : Value} {z : Value} {ps : List MemPlace} (h : heldV v = some (.held z, ps)) : v = z := by
  simp only [heldV, Option.some.injEq, Prod.mk.injEq, DataW.held.injEq] at h
  exact h.1
theorem MapV.look {t e : TypeId} (h : MapV P k w b U f) (K : Keyed P k) (ht : P.underlying t = some (.map k e)) {z : Value} (hz : (zeroValue e).run P w = .ok z w) {key : Value} {kl : Lit} (hkey : keyOf P k key = some kl) :
    (Instr.lookup t (.map (some b)) key false).run P w = .ok ((f kl).getD z) w := by
  obtain ⟨D, hD, h1, _⟩ := h
  obtain ⟨v, ps, hrun, hv⟩ := hD.lookup K ht hz (zd := .held z) (zp := []) rfl hkey
  rw [(h1 kl (K.key hkey)).2 z] at hv
  rw [heldV_inj hv] at hrun
  exact hrun
theorem MapV.look_ok {t e : TypeId} (h : MapV P k w b U f) (K : Keyed P k) (ht : P.underlying t = some (.map k e)) {z : Value} (hz : (zeroValue e).run P w = .ok z w) {key : Value} {kl : Lit} (hkey : keyOf P k key = some kl) :
    (Instr.lookup t (.map (some b)) key true).run P w = .ok (.tuple #[(f kl).getD z, .bool (f kl).isSome]) w := by
  obtain ⟨D, hD, h1, _⟩ := h
  obtain ⟨v, ps, hrun, hv⟩ := World.ownsMap.look_ok hD K ht hz (zd := .held z) (zp := []) rfl hkey
  rw [(h1 kl (K.key hkey)).2 z] at hv
  rw [heldV_inj hv, (h1 kl (K.key hkey)).1] at hrun
  exact hrun
open Classical in
/-- f with v at l. -/
noncomputable def putF (f : Lit → Option Value) (l : Lit) (v : Value) : Lit → Option Value := fun l' => if l' = l then some v else f l'
theorem putF_same (f : Lit → Option Value) (l : Lit) (v : Value) : putF f l v l = some v := by unfold putF; exact if_pos rfl
theorem putF_other (f : Lit → Option Value) {l l' : Lit} (h : l' ≠ l) (v : Value) : putF f l v l' = f l' := by unfold putF; exact if_neg h
theorem MapV.store {t e : TypeId} (h : MapV P k w b U f) (K : Keyed P k) (ht : P.underlying t = some (.map k e)) (hn : U.length < maxLen) {key val : Value} {kl : Lit} (hkey : keyOf P k key = some kl) (hU : kl ∈ U) :
    ∃ w', (Instr.mapUpdate t (.map (some b)) key val).run P w = .ok () w' ∧ MapV P k w' b U (putF f kl val) ∧ w.grownBy w' (some b) := by
  obtain ⟨D, hD, h1, h2⟩ := h
  obtain ⟨w', hrun, hD', hg⟩ := hD.update K ht hn hkey (val := val) (d := .held val) (ps := []) rfl
  have hM := World.ownsMap.isMap hD
  have hT := World.ownsMap.tidy hD' K
  have hl := K.key hkey
  have h2' : ∀ l, has (D.put kl (.held val)) l = true → l ∈ U := by
    intro l hh
    by_cases e : l = kl
    · rw [e]; exact hU
    · rw [has_put_other e] at hh; exact h2 l hh
  refine ⟨w', hrun, ⟨D.put kl (.held val), ownsMap_lower hD' ?_, fun l hl' => ?_, h2'⟩, hg⟩
  · classical
    obtain ⟨es, hes, hp0, hkl⟩ := World.ownsMap.canon hD' K
    have hp := Go.Maps.apart_of_rising hp0
    rw [hes, size_eq]
    have hp2 : (es.map (·.1)).Pairwise (fun a b => a ≠ b) := List.pairwise_map.2 hp
    have := length_inj hp2 (U := U) fun x hx => by
      obtain ⟨p, hp', rfl⟩ := List.mem_map.1 hx
      apply h2'
      rw [hes, has_eq]
      exact List.any_eq_true.2 ⟨p, hp', by have := hkl p hp'; revert this; cases p.1 <;> simp [Lit.sameKey, WideAt.IsKeyLit]⟩
    simpa using this
  · by_cases e : l = kl
    · subst e
      rw [putF_same]
      exact ⟨has_put_same hM hl' _, fun z => atKey_put_same hM hl' _ _⟩
    · rw [putF_other f e]
      exact ⟨(has_put_other e _).trans (h1 l hl').1, fun z => (atKey_put_other e _ _).trans ((h1 l hl').2 z)⟩
end

/-! ### at the operation -/
theorem wpList_look_mapV {P : Program} (w : World) {ops : Array Oper} {rest : List Oper} {o : Oper} {a : Act} {Q : Exit → Act → World → Prop}
    (hg : o.guard = none) (m x : Operand) (t : TypeId) (hop : o.op = Op.lookup t m x false)
    (k e : TypeId) (K : Keyed P k) (ht : P.underlying t = some (.map k e)) {z : Value} (hz : (zeroValue e).run P w = .ok z w) (b : Nat) (U : List Lit) (f : Lit → Option Value)
    (hm : a.eval m = .map (some b)) (hown : MapV P k w b U f) (key : Value) (kl : Lit) (hx : a.eval x = key) (hkey : keyOf P k key = some kl)
    (hK : wpList P ops Q rest (a.put o.dst ((f kl).getD z)) w) :
    wpList P ops Q (o :: rest) a w := by
  refine wpList_plain hg fun K' hK' => ?_
  have hrun := hown.look K ht hz hkey
  unfold Oper.wp
  simp [execOp, hop, hm, hx, hrun, Result.andThen]
  exact hK' _ _ hK
theorem wpList_look_ok_mapV {P : Program} (w : World) {ops : Array Oper} {rest : List Oper} {o : Oper} {a : Act} {Q : Exit → Act → World → Prop}
    (hg : o.guard = none) (m x : Operand) (t : TypeId) (hop : o.op = Op.lookup t m x true)
    (k e : TypeId) (K : Keyed P k) (ht : P.underlying t = some (.map k e)) {z : Value} (hz : (zeroValue e).run P w = .ok z w) (b : Nat) (U : List Lit) (f : Lit → Option Value)
    (hm : a.eval m = .map (some b)) (hown : MapV P k w b U f) (key : Value) (kl : Lit) (hx : a.eval x = key) (hkey : keyOf P k key = some kl)
    (hK : wpList P ops Q rest (a.put o.dst (.tuple #[(f kl).getD z, .bool (f kl).isSome])) w) :
    wpList P ops Q (o :: rest) a w := by
  refine wpList_plain hg fun K' hK' => ?_
  have hrun := hown.look_ok K ht hz hkey
  unfold Oper.wp
  simp [execOp, hop, hm, hx, hrun, Result.andThen]
  exact hK' _ _ hK
theorem wpList_store_mapV {P : Program} (w : World) {ops : Array Oper} {rest : List Oper} {o : Oper} {a : Act} {Q : Exit → Act → World → Prop}
    (hg : o.guard = none) (m x v : Operand) (t : TypeId) (hop : o.op = Op.mapUpdate t m x v)
    (k e : TypeId) (K : Keyed P k) (ht : P.underlying t = some (.map k e)) (b : Nat) (U : List Lit) (f : Lit → Option Value)
    (hm : a.eval m = .map (some b)) (hown : MapV P k w b U f) (hn : U.length < maxLen) (key val : Value) (kl : Lit) (hx : a.eval x = key) (hv : a.eval v = val) (hkey : keyOf P k key = some kl) (hU : kl ∈ U)
    (hK : ∀ w', MapV P k w' b U (putF f kl val) → w.grownBy w' (some b) → wpList P ops Q rest (a.put o.dst undef) w') :
    wpList P ops Q (o :: rest) a w := by
  refine wpList_plain hg fun K' hK' => ?_
  obtain ⟨w', hrun, r1, r2⟩ := hown.store K ht hn hkey (val := val) hU
  unfold Oper.wp
  simp [execOp, hop, hm, hx, hv, hrun, Result.andThen]
  exact hK' _ _ (hK w' r1 r2)
end Go.Proofs.YtlbkfhdnhalpbaaGreat

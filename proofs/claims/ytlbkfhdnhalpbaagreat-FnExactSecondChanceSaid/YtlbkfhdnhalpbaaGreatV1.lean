/- Joined texts of one proof: N24, N25, N28, N29, N30, N31, N32, N33, N34, N35, N36. Each part tells what it shows. There are no conditions. -/
import Derived.Test.YtlbkfhdnhalpbaaGreatN18
import Derived.Test.YtlbkfhdnhalpbaaGreatN22
import Derived.Test.YtlbkfhdnhalpbaaGreatN19
import Derived.Test.YtlbkfhdnhalpbaaGreatPos2
import Derived.Lib.SliceRun
import Derived.Test.YtlbkfhdnhalpbaaGreatShelf
import Derived.Test.YtlbkfhdnhalpbaaGreatN15
import Derived.Test.YtlbkfhdnhalpbaaGreatN17
import Derived.Test.YtlbkfhdnhalpbaaGreatMap
import Derived.Test.YtlbkfhdnhalpbaaGreatQM

/- Contracts of equality of positions. There are no conditions. -/
namespace Go.Proofs.YtlbkfhdnhalpbaaGreat
set_option linter.unusedVariables false
set_option linter.unusedSimpArgs false
open Go.RowKit Ps

set_option maxRecDepth 10000 in
theorem Equal_any (A B : Option Addr) (n ca cb : Nat) (p q : List Int) (w : World) (hx : SL w A n p) (hy : SL w B n q) (hn : n ≤ 2000) :
    Calls Tryz.prog 130 #[.slice A n ca, .slice B n cb] w fun e w' => e = .returned (.bool (decide (p = q))) ∧ ∃ m, w' = w.drewN m := by
  have HX := Lib.hid hx
  have HY := Lib.hid hy
  have hl1 := Lib.hid hx.1
  have hl2 := Lib.hid hy.1
  clear hx hy
  go_enter Tryz.func130, Tryz.ntmps130
  go_wp2
  go_loopw [13] (fun i wr => ∃ k : Nat, k ≤ n ∧ i = .int .i64 k ∧ Hid (∀ j, j < k → p.getD j 0 = q.getD j 0) ∧ Hid (∃ m, wr = w.drewN m)) (fun i _ => n - (intOf i).toNat)
  case atStart => exact ⟨0, by omega, rfl, fun j hj => by omega, 0, rfl⟩
  case round =>
    obtain ⟨k, hk, rfl, hc, hw⟩ := hrel
    by_cases hkn : k < n
    · have hki : (k : Int) < (n : Int) := by omega
      obtain ⟨m, hm⟩ := hw.out
      have HX2 : SL wr A n p := by rw [hm]; exact HX.out
      have HY2 : SL wr B n q := by rw [hm]; exact HY.out
      obtain ⟨b1, o1, rfl, z1, c1⟩ := HX2.2 (by omega)
      obtain ⟨b2, o2, rfl, z2, c2⟩ := HY2.2 (by omega)
      have d1 := c1 k hkn
      have d2 := c2 k hkn
      have E : Hid (p.getD k 0 = q.getD k 0 → ∀ j, j < k + 1 → p.getD j 0 = q.getD j 0) := fun e j hj => by
        by_cases h : j = k
        · rw [h]; exact e
        · exact hc.out j (by omega)
      have D : Hid (¬ p.getD k 0 = q.getD k 0 → decide (p = q) = false) := fun e => decide_eq_false fun h => e (by rw [h])
      clear HX2 HY2 c1 c2 hm
      generalize p.getD k 0 = x at *
      generalize q.getD k 0 = y at *
      by_cases hxy : x = y
      · have b0 : (x != y) = false := by simp [hxy]
        have HE := Lib.hid (E.out hxy)
        clear hxy
        go_wp2_with (fail)
        go_quiet (fail)
        go_wp2_with (fail)
        go_roundw
        case rel => exact ⟨k + 1, by omega, by go_num, HE.out, drw_ex hw.out⟩
        case measure => (simp [intOf]) <;> omega
      · have b0 : (x != y) = true := by simp [hxy]
        have HE := Lib.hid (D.out hxy)
        clear hxy
        go_wp2_with (fail)
        go_quiet (fail)
        go_wp2_with (fail)
        go_ret
        exact ⟨by rw [HE.out]; rfl, drw_ex hw.out⟩
    · have hkk : k = n := by omega
      have HE : Hid (decide (p = q) = true) := decide_eq_true (ext_getD (by rw [hl1.out, hl2.out]) fun i hi => hc.out i (by have := hl1.out; omega))
      go_wp2_with (fail)
      go_ret
      exact ⟨by rw [HE.out]; rfl, hw.out⟩

theorem same_any (A B : Option Addr) (n ca cb : Nat) (p q : List Int) (w : World) (hx : SL w A n p) (hy : SL w B n q) (hn : n ≤ 2000) :
    Calls Tryz.prog 198 #[.slice A n ca, .slice B n cb] w fun e w' => e = .returned (.bool (decide (p = q))) ∧ ∃ m, w' = w.drewN m := by
  have CE := Lib.hid (Equal_any A B n ca cb p q w hx hy hn)
  clear hx hy
  go_enter Tryz.func198, Tryz.ntmps198
  go_wp2_with (go_at_call 130; (with_reducible refine CE.out.mono ?_); rintro e w' ⟨rfl, m, rfl⟩)
  go_ret
  exact ⟨rfl, m, rfl⟩
end Go.Proofs.YtlbkfhdnhalpbaaGreat

/- Contract of the orders of a roll, the program's. There are no conditions. -/
namespace Go.Proofs.YtlbkfhdnhalpbaaGreat
set_option linter.unusedVariables false
set_option linter.unusedSimpArgs false
open Go.RowKit Ps

def castD (l : List (List Nat)) : List (List Int) := l.map (List.map (Nat.cast : Nat → Int))

set_option maxRecDepth 10000 in
theorem ordersOf_any (S : Nat → Prop) (a b : Nat) (w : World) (hS : ∀ k, w.heap.size ≤ k → ¬ S k) :
    Calls Tryz.prog 179 #[.agg #[.int .i64 a, .int .i64 b]] w (RetL S w (castD (dice a b))) := by
  have HSS := Lib.hid hS
  clear hS
  by_cases hab : a = b
  · subst hab
    have HB1 : Hid (Below w.heap.size w (w.alloc (.cells #[.int .i64 a, .int .i64 a] 39))) := (Below.refl _ _).alloc (Nat.le_refl _) _
    have HO := Lib.hid (OwnS.made (w.alloc (.cells #[.int .i64 a, .int .i64 a] 39)) (base := w.heap.size) 2 [(a : Int), a, a, a] #[.int .i64 a, .int .i64 a, .int .i64 a, .int .i64 a] (n := 4) rfl rfl HB1.out.size (by unfold maxLen; omega))
    have HB2 := Lib.hid (HB1.out.alloc HB1.out.size (.cells #[.int .i64 a, .int .i64 a, .int .i64 a, .int .i64 a] 2))
    have HP := Lib.hid (OP.one (S := S) HB2.out HSS.out (PV.own HO.out HSS.out))
    have HB3 := Lib.hid (HB2.out.alloc HB2.out.size (.cells #[.slice (some ⟨(w.alloc (.cells #[.int .i64 a, .int .i64 a] 39)).heap.size, 0, none⟩) 4 4] 24))
    go_enter Tryz.func179, Tryz.ntmps179
    go_wp2
    go_ret
    have e : castD (dice a a) = [[(a : Int), a, a, a]] := by rw [dice_eq]; rfl
    rw [e]
    refine ⟨w.heap.size + 1 + 1, 0, 1, 1, rfl, ?_, by omega, ?_⟩
    · have h := HP.out; simpa using h
    · have h := HB3.out; simpa using h
  · have b0 : ((a : Int) == (b : Int)) = false := by simp; omega
    have HB1 : Hid (Below w.heap.size w (w.alloc (.cells #[.int .i64 a, .int .i64 b] 39))) := (Below.refl _ _).alloc (Nat.le_refl _) _
    have HO1 := Lib.hid (OwnS.made (w.alloc (.cells #[.int .i64 a, .int .i64 b] 39)) (base := w.heap.size) 2 [(a : Int), b] #[.int .i64 a, .int .i64 b] (n := 2) rfl rfl HB1.out.size (by unfold maxLen; omega))
    have HB2 := Lib.hid (HB1.out.alloc HB1.out.size (.cells #[.int .i64 a, .int .i64 b] 2))
    have HO2 := Lib.hid (OwnS.made ((w.alloc (.cells #[.int .i64 a, .int .i64 b] 39)).alloc (.cells #[.int .i64 a, .int .i64 b] 2)) (base := w.heap.size) 2 [(b : Int), a] #[.int .i64 b, .int .i64 a] (n := 2) rfl rfl HB2.out.size (by unfold maxLen; omega))
    have HO3 := Lib.hid (HO1.out.alloc' (.cells #[.int .i64 b, .int .i64 a] 2))
    have HB3 := Lib.hid (HB2.out.alloc HB2.out.size (.cells #[.int .i64 b, .int .i64 a] 2))
    have HP := Lib.hid (OP.made (S := S) (e := 24) _ HB3.out.size HSS.out ((PVs.one (PV.own HO3.out HSS.out)).snoc (PV.own HO2.out HSS.out)) (by unfold maxLen; simp))
    have HB4 := Lib.hid (HB3.out.alloc HB3.out.size (.cells #[.slice (some ⟨(w.alloc (.cells #[.int .i64 a, .int .i64 b] 39)).heap.size, 0, none⟩) 2 2, .slice (some ⟨((w.alloc (.cells #[.int .i64 a, .int .i64 b] 39)).alloc (.cells #[.int .i64 a, .int .i64 b] 2)).heap.size, 0, none⟩) 2 2] 24))
    go_enter Tryz.func179, Tryz.ntmps179
    go_wp2
    go_ret
    have e : castD (dice a b) = [[(a : Int), b], [(b : Int), a]] := by rw [dice_ne hab]; rfl
    rw [e]
    obtain ⟨A, c, hv, hpl, _⟩ := HP.out.read
    injection hv with h1 h2 h3
    subst h1
    refine ⟨w.heap.size + 1 + 1 + 1, 0, 2, 2, rfl, ?_, by omega, ?_⟩
    · simpa using hpl
    · have h := HB4.out; simpa using h
end Go.Proofs.YtlbkfhdnhalpbaaGreat

/- Contract of the library's CompactFunc at positions of the call's own. There are no conditions. -/
namespace Go.Proofs.YtlbkfhdnhalpbaaGreat
set_option linter.unusedVariables false
set_option linter.unusedSimpArgs false
open Go.RowKit Ps

theorem last_take {ps : List (List Int)} {m : Nat} (h1 : 1 ≤ m) (h2 : m ≤ ps.length) : (ps.take m).getLast? = some (ps.getD (m - 1) []) := by
  obtain ⟨j, rfl⟩ : ∃ j, m = j + 1 := ⟨m - 1, by omega⟩
  rw [take_snoc_getD ps [] (by omega)]
  simp
theorem cmpct_dup {ps : List (List Int)} {m : Nat} (h1 : 1 ≤ m) (h2 : m < ps.length) (he : ps.getD m [] = ps.getD (m - 1) []) : cmpct (ps.take (m + 1)) = cmpct (ps.take m) := by
  rw [take_snoc_getD ps [] h2, cmpct_snoc, if_pos]
  rw [cmpct_last, last_take h1 (by omega), he]
theorem cmpct_new {ps : List (List Int)} {m : Nat} (h1 : 1 ≤ m) (h2 : m < ps.length) (he : ps.getD m [] ≠ ps.getD (m - 1) []) : cmpct (ps.take (m + 1)) = cmpct (ps.take m) ++ [ps.getD m []] := by
  rw [take_snoc_getD ps [] h2, cmpct_snoc, if_neg]
  rw [cmpct_last, last_take h1 (by omega)]
  intro h
  injection h with h
  exact he h.symm
theorem cmpct_one {ps : List (List Int)} (h : ps.length ≤ 1) : cmpct ps = ps := by
  match ps, h with
  | [], _ => rfl
  | [p], _ => rfl
theorem PVs.at {S : Nat → Prop} {w : World} {cs : List Value} {ps : List (List Int)} (h : PVs S w cs ps) {j : Nat} (hj : j < cs.length) : ∃ A m c, cs.getD j undef = .slice A m c ∧ SQ S w A m (ps.getD j []) := by
  obtain ⟨A, m, c, h1, h2, _⟩ := h.2 j hj
  exact ⟨A, m, c, h1, h2⟩
theorem row_cell {w : World} {base : Nat} {e : TypeId} {g n cap : Nat} {pre cs : List Value} {k : Nat} (h : w.ownsRow base e 1 (.slice (some ⟨g, 0, none⟩) n cap) n (pre ++ cs.drop pre.length)) (hcs : cs.length = n) (hk : pre.length ≤ k) (hkn : k < n) :
    w.cell? ⟨g, k, none⟩ = some (cs.getD k undef) := by
  rw [h.cellAt k (by omega), List.getElem?_append_right hk, List.getElem?_drop, show pre.length + (k - pre.length) = k by omega]
  simp [List.getD, show k < cs.length by omega]
theorem row_keep {w : World} {base : Nat} {e : TypeId} {g n cap : Nat} {pre cs : List Value} {u : Value} (h : w.ownsRow base e 1 (.slice (some ⟨g, 0, none⟩) n cap) n (pre ++ cs.drop pre.length)) (hcs : cs.length = n) (hkn : pre.length < n) :
    (w.setCell ⟨g, pre.length, none⟩ u).ownsRow base e 1 (.slice (some ⟨g, 0, none⟩) n cap) n ((pre ++ [u]) ++ cs.drop (pre ++ [u]).length) := by
  have h2 := (h.stored pre.length u).1
  have e1 : (pre ++ cs.drop pre.length).set pre.length u = (pre ++ [u]) ++ cs.drop (pre ++ [u]).length := by
    rw [List.set_append_right _ _ (Nat.le_refl _), Nat.sub_self, List.length_append, List.length_singleton, List.append_assoc]
    congr 1
    rw [List.drop_eq_getElem_cons (by omega : pre.length < cs.length)]
    rfl
  rwa [e1] at h2
/-- The first cells of a row, whatever was done to the others. -/
theorem row_cut {w : World} {base : Nat} {e : TypeId} {g n cap : Nat} {pre rest : List Value} (h : w.ownsRow base e 1 (.slice (some ⟨g, 0, none⟩) n cap) n (pre ++ rest)) (vs : List Value) :
    (w.setCells g pre.length vs).ownsRow base e 1 (.slice (some ⟨g, 0, none⟩) pre.length cap) pre.length pre ∧ w.grownBy (w.setCells g pre.length vs) (some g) := by
  have key : ∀ (vs : List Value) (o : Nat) (w : World), pre.length ≤ o → (∃ cap' cur, cap' = cap ∧ base ≤ g ∧ w.heap[g]? = some (.cells cur e (0, 0)) ∧ n ≤ cap ∧ cap ≤ maxLen ∧ cur.size = cap * 1 ∧ cur.toList.take pre.length = pre) →
      (∃ cap' cur, cap' = cap ∧ base ≤ g ∧ (w.setCells g o vs).heap[g]? = some (.cells cur e (0, 0)) ∧ n ≤ cap ∧ cap ≤ maxLen ∧ cur.size = cap * 1 ∧ cur.toList.take pre.length = pre) ∧ w.grownBy (w.setCells g o vs) (some g) := by
    intro vs
    induction vs with
    | nil => intro o w _ hh; exact ⟨hh, ⟨rfl, rfl, rfl, Nat.le_refl _, fun _ _ _ => rfl⟩⟩
    | cons v r ih =>
      intro o w ho hh
      obtain ⟨cap', cur, h0, h1, h2, h3, h4, h5, h6⟩ := hh
      have hs := ih (o + 1) (w.setCell ⟨g, o, none⟩ v) (by omega) ⟨cap', cur.setIfInBounds o v, h0, h1, heap_setCell_same w g o cur e v h2, h3, h4, by simpa using h5, by
        rw [Array.toList_setIfInBounds, List.take_set_of_le ho]; exact h6⟩
      refine ⟨hs.1, ?_⟩
      have hg1 : w.grownBy (w.setCell ⟨g, o, none⟩ v) (some g) := ⟨rfl, rfl, rfl, by simp, fun k _ hk => heap_setCell_other w ⟨g, o, none⟩ k v (fun e => hk (by simp [e]))⟩
      have hg2 := hs.2
      exact ⟨hg2.os.trans hg1.os, hg2.tape.trans hg1.tape, hg2.output.trans hg1.output, Nat.le_trans hg1.size hg2.size, fun k hk hn => (hg2.block k (Nat.lt_of_lt_of_le hk hg1.size) hn).trans (hg1.block k hk hn)⟩
  rcases h.2 with ⟨h', _⟩ | ⟨g', cap', cur, h', hb, hg, hnc, hcm, hcs, htake⟩
  · simp at h'
  · simp only [Value.slice.injEq, Option.some.injEq, Addr.mk.injEq, and_true, true_and] at h'
    obtain ⟨rfl, rfl⟩ := h'
    have hpl : pre.length ≤ n := by have := h.1; simp at this; omega
    have h6 : cur.toList.take pre.length = pre := by
      have : (cur.toList.take (n * 1)).take pre.length = pre := by rw [htake]; simp
      rwa [List.take_take, Nat.min_eq_left (by omega)] at this
    obtain ⟨⟨_, cur2, _, k1, k2, k3, k4, k5, k6⟩, hgr⟩ := key vs pre.length w (Nat.le_refl _) ⟨cap, cur, rfl, hb, hg, hnc, hcm, hcs, h6⟩
    exact ⟨⟨by simp, .inr ⟨g, cap, cur2, rfl, k1, k2, by omega, k4, k5, by rw [Nat.mul_one]; exact k6⟩⟩, hgr⟩
theorem grown_trans {a b c : World} {r : Option Nat} (h : a.grownBy b r) (k : b.grownBy c r) : a.grownBy c r :=
  ⟨k.os.trans h.os, k.tape.trans h.tape, k.output.trans h.output, Nat.le_trans h.size k.size, fun i hi hn => (k.block i (Nat.lt_of_lt_of_le hi h.size) hn).trans (h.block i hi hn)⟩
theorem grown_drewN {a b : World} {r : Option Nat} (h : a.grownBy b r) (k : Nat) : a.grownBy (b.drewN k) r := ⟨h.os, h.tape, h.output, h.size, h.block⟩
theorem grown_refl (a : World) (r : Option Nat) : a.grownBy a r := ⟨rfl, rfl, rfl, Nat.le_refl _, fun _ _ _ => rfl⟩
theorem row_drewN {w : World} {base : Nat} {e : TypeId} {z n : Nat} {v : Value} {xs : List Value} (h : w.ownsRow base e z v n xs) (k : Nat) : (w.drewN k).ownsRow base e z v n xs := h
theorem row_clear {w : World} {base : Nat} {e : TypeId} {g n cap : Nat} {xs : List Value} (h : w.ownsRow base e 1 (.slice (some ⟨g, 0, none⟩) n cap) n xs) {k : Nat} (hk : k < n) (t : TypeId) (ht : Tryz.prog.underlying t = some (.slice 24)) (ty : TypeId) :
    (Builtin.clear_ #[t] ty #[.slice (some ⟨g, k, none⟩) (n - k) (cap - k)]).run Tryz.prog w = .ok (.tuple #[]) (w.setCells g k (List.replicate (n - k) (.slice none 0 0))) :=
  Lib.run_clear_slice w _ 24 ty _ ht (fun _ => by kernel_rfl) rfl rfl g k (n - k) (cap - k) (by omega)
    (fun j hj => by
      have h1 := h.cellAt (k + j) (by omega)
      have h2 := h.1
      rw [h1, List.getElem?_eq_getElem (by omega)]; rfl)
    (fun j hj => h.frozenAt (k + j))
end Go.Proofs.YtlbkfhdnhalpbaaGreat

/- Contract of the library's CompactFunc at positions of the call's own: the walk. There are no conditions. -/
namespace Go.Proofs.YtlbkfhdnhalpbaaGreat
set_option linter.unusedVariables false
set_option linter.unusedSimpArgs false
open Go.RowKit Ps

def RetC (S : Nat → Prop) (w : World) (base g cap : Nat) (ps : List (List Int)) (e : Ending) (w' : World) : Prop :=
  ∃ k, e = .returned (.slice (some ⟨g, 0, none⟩) k cap) ∧ OP S w' base 24 (.slice (some ⟨g, 0, none⟩) k cap) ps ∧ w.grownBy w' (some g)
/-- What lies in the row behind m elements. -/
def InvC (S : Nat → Prop) (w : World) (base g n cap : Nat) (cs : List Value) (ps : List (List Int)) (m kk : Nat) (wr : World) : Prop :=
  ∃ pre, pre.length = kk ∧ wr.ownsRow base 24 1 (.slice (some ⟨g, 0, none⟩) n cap) n (pre ++ cs.drop pre.length) ∧ PVs S w pre (cmpct (ps.take m)) ∧ w.grownBy wr (some g)
theorem InvC.drewN {S : Nat → Prop} {w wr : World} {base g n cap : Nat} {cs : List Value} {ps : List (List Int)} {m kk : Nat} (h : InvC S w base g n cap cs ps m kk wr) (k : Nat) : InvC S w base g n cap cs ps m kk (wr.drewN k) :=
  let ⟨pre, h1, h2, h3, h4⟩ := h; ⟨pre, h1, row_drewN h2 k, h3, grown_drewN h4 k⟩



set_option maxRecDepth 100000 in
set_option maxHeartbeats 2000000 in
theorem CompactFunc_any (S : Nat → Prop) (base g n cap hgt : Nat) (ps : List (List Int)) (w : World) (h : OP S w base 24 (.slice (some ⟨g, 0, none⟩) n cap) ps) (hn : n ≤ 1000000000) (hnl : ps.length = n) (hl : ∀ p ∈ ps, p.length = hgt) (hh : hgt ≤ 2000) :
    Calls Tryz.prog 197 #[.slice (some ⟨g, 0, none⟩) n cap, .func (.func 198) #[] #[]] w (RetC S w base g cap (cmpct ps)) := by
  obtain ⟨cs, hrow, hpv, hsb⟩ := h
  rw [hnl] at hrow
  have HROW := Lib.hid hrow
  have HPV := Lib.hid hpv
  have HSB := Lib.hid hsb
  have HPL := Lib.hid hnl
  have HCL : Hid (cs.length = n) := by unfold Hid; rw [hpv.1, hnl]
  have HLN := Lib.hid hl
  have hcap : n ≤ cap := by
    rcases hrow.2 with ⟨h', _⟩ | ⟨g', cap', cur, h', _, _, h3, _⟩
    · simp at h'
    · injection h' with _ _ h4; omega
  have hcm : cap ≤ 9223372036854775807 := by
    rcases hrow.2 with ⟨h', _⟩ | ⟨g', cap', cur, h', _, _, _, h3, _⟩
    · simp at h'
    · injection h' with _ _ h4; unfold maxLen at h3; omega
  clear hrow hpv hsb hl hnl
  by_cases h2 : n < 2
  · have HR : Hid (RetC S w base g cap (cmpct ps) (.returned (.slice (some ⟨g, 0, none⟩) n cap)) w) := by
      refine ⟨n, rfl, ?_, grown_refl _ _⟩
      rw [cmpct_one (by rw [HPL.out]; omega)]
      exact ⟨cs, by rw [HPL.out]; exact HROW.out, HPV.out, HSB.out⟩
    have h2i : (n : Int) < 2 := by omega
    go_enter Tryz.func197, Tryz.ntmps197
    go_wp2
    go_ret
    exact HR.out
  · have h2i : ¬ (n : Int) < 2 := by omega
    go_enter Tryz.func197, Tryz.ntmps197
    go_wp2
    go_loopw [5] (fun vi wr => ∃ k : Nat, 1 ≤ k ∧ k ≤ n ∧ vi = .int .i64 k ∧ Hid (cmpct (ps.take k) = ps.take k) ∧ Hid (∃ m, wr = w.drewN m)) (fun vi _ => n - (intOf vi).toNat)
    case atStart => exact ⟨1, by omega, by omega, rfl, by unfold Hid; exact cmpct_one (by rw [List.length_take]; omega), 0, rfl⟩
    case round =>
      obtain ⟨k, hk1, hk, rfl, hcp, hw⟩ := hrel
      by_cases hlt : k < n
      · have hki : (k : Int) < (n : Int) := by omega
        obtain ⟨m0, hm0⟩ := hw.out
        have HRr : Hid (∀ j, 0 ≤ j → j < n → wr.cell? ⟨g, j, none⟩ = some (cs.getD j undef)) := fun j _ hj => by
          rw [hm0]
          exact row_cell (pre := []) (k := j) (by rw [List.nil_append]; exact row_drewN HROW.out m0) HCL.out (Nat.zero_le _) hj
        have HFR : Hid (∀ (T : Nat → Prop) (q : Nat), Frm T w (wr.drewN q)) := fun T q => by rw [hm0]; exact ((Frm.refl T w).drewN m0).drewN q
        obtain ⟨A1, m1, c1, hu1, hs1⟩ := HPV.out.at (j := k) (by rw [HCL.out]; omega)
        obtain ⟨A2, m2, c2, hu2, hs2⟩ := HPV.out.at (j := k - 1) (by rw [HCL.out]; omega)
        have q1 := HRr.out (k) (by omega) (by omega)
        have q2 := HRr.out (k - 1) (by omega) (by omega)
        rw [hu1] at q1
        rw [hu2] at q2
        have hm1 : hgt = m1 := by rw [← hs1.1.1]; symm; exact HLN.out _ (getD_mem' ps [] (by rw [HPL.out]; omega))
        have hm2 : hgt = m2 := by rw [← hs2.1.1]; symm; exact HLN.out _ (getD_mem' ps [] (by rw [HPL.out]; omega))
        subst hm1
        subst hm2
        have EQ := Lib.hid fun (kq : Nat) => same_any A1 A2 hgt c1 c2 (ps.getD (k) []) (ps.getD (k - 1) []) (World.drewN wr kq) (by exact (hs1.frm (HFR.out _ kq)).1) (by exact (hs2.frm (HFR.out _ kq)).1) hh
        clear hu1 hu2 hs1 hs2
        have hsub : ((k : Int) - 1) = ((k - 1 : Nat) : Int) := by omega
        have hsub0 : (0 : Int) ≤ (k : Int) - 1 := by omega
        have hsub1 : (k : Int) - 1 < (n : Int) := by omega
        clear hm0
        by_cases hdup : ps.getD k [] = ps.getD (k - 1) []
        · have HC : Hid (cmpct (ps.take (k + 1)) = ps.take k) := by unfold Hid; rw [cmpct_dup hk1 (by rw [HPL.out]; exact hlt) hdup]; exact hcp.out
          have b0 : decide (ps.getD k [] = ps.getD (k - 1) []) = true := decide_eq_true hdup
          rw [b0] at EQ
          clear b0 hdup
          go_wp2_with (fail)
          go_quiet ((go_at_call 198; exact Calls.quiet_of (EQ.out _)))
          have HI : Hid (InvC (wth S (.slice (some ⟨g, 0, none⟩) n cap)) w base g n cap cs ps (k + 1) k (wr.drewN nq)) := by
            obtain ⟨m0, hm0⟩ := hw.out
            refine ⟨cs.take k, by rw [List.length_take, HCL.out]; omega, ?_, ?_, ?_⟩
            · rw [hm0, List.length_take, HCL.out, Nat.min_eq_left (by omega), List.take_append_drop]; exact HROW.out
            · rw [HC.out]; exact HPV.out.take k
            · rw [hm0]; exact grown_drewN (grown_drewN (grown_refl _ _) _) _
          clear HRr HFR EQ q1 q2
          generalize wr.drewN nq = wo at *
          have hck : ¬ cap = k := by omega
          have hkn : k ≤ n := hk
          have hkc : (k : Int) ≤ (cap : Int) := by omega
          go_wp2_with (fail)
          go_loopw [5, 7] (fun v5 v7 wr => ∃ kk k2 : Nat, 1 ≤ k2 ∧ k + k2 ≤ n ∧ kk + 1 ≤ k + k2 ∧ k ≤ kk ∧ v5 = .int .i64 kk ∧ v7 = .int .i64 k2 ∧ Hid (InvC (wth S (.slice (some ⟨g, 0, none⟩) n cap)) w base g n cap cs ps (k + k2) kk wr)) (fun _ v7 _ => n - (intOf v7).toNat)
          case atStart => exact ⟨k, 1, by omega, by omega, by omega, by omega, rfl, rfl, HI.out⟩
          case round =>
            clear HI
            obtain ⟨kk, k2, h1, h2, h3, h4, rfl, rfl, HI⟩ := hrel
            obtain ⟨pre, hpk, hrow, hpv, hgr⟩ := HI.out
            have HPK := Lib.hid hpk
            have HROWr := Lib.hid hrow
            have HPVr := Lib.hid hpv
            have HGR := Lib.hid hgr
            clear hpk hrow hpv hgr HI
            by_cases hl2 : k + k2 < n
            · have hl2i : (k2 : Int) < ((n - k : Nat) : Int) := by omega
              have HRr : Hid (∀ j, kk ≤ j → j < n → wr.cell? ⟨g, j, none⟩ = some (cs.getD j undef)) := fun j hj1 hj => row_cell HROWr.out HCL.out (by rw [HPK.out]; exact hj1) hj
              have HFR : Hid (∀ (q : Nat), Frm (wth S (.slice (some ⟨g, 0, none⟩) n cap)) w (wr.drewN q)) := fun q => (frm_own (v := .slice (some ⟨g, 0, none⟩) n cap) HGR.out).drewN q
              have HUV : Hid (∃ u, cs.getD (k + k2) undef = u ∧ PV (wth S (.slice (some ⟨g, 0, none⟩) n cap)) w u (ps.getD (k + k2) [])) := ⟨_, rfl, HPV.out.2 _ (by rw [HCL.out]; exact hl2)⟩
              obtain ⟨A1, m1, c1, hu1, hs1⟩ := HPV.out.at (j := k + k2) (by rw [HCL.out]; omega)
              obtain ⟨A2, m2, c2, hu2, hs2⟩ := HPV.out.at (j := k + k2 - 1) (by rw [HCL.out]; omega)
              have HU1 := Lib.hid hu1
              have q1 := HRr.out (k + k2) (by omega) (by omega)
              have q2 := HRr.out (k + k2 - 1) (by omega) (by omega)
              rw [hu1] at q1
              rw [hu2] at q2
              have hm1 : hgt = m1 := by rw [← hs1.1.1]; symm; exact HLN.out _ (getD_mem' ps [] (by rw [HPL.out]; omega))
              have hm2 : hgt = m2 := by rw [← hs2.1.1]; symm; exact HLN.out _ (getD_mem' ps [] (by rw [HPL.out]; omega))
              subst hm1
              subst hm2
              have EQ := Lib.hid fun (kq : Nat) => same_any A1 A2 hgt c1 c2 (ps.getD (k + k2) []) (ps.getD (k + k2 - 1) []) (World.drewN wr kq) (by exact (hs1.frm (HFR.out kq)).1) (by exact (hs2.frm (HFR.out kq)).1) hh
              clear hu1 hu2 hs1 hs2
              have hsub : ((k2 : Int) - 1) = ((k2 - 1 : Nat) : Int) := by omega
              have hsub0 : (0 : Int) ≤ (k2 : Int) - 1 := by omega
              have hsub1 : (k2 : Int) - 1 < ((n - k : Nat) : Int) := by omega
              have hadd : k + (k2 - 1) = k + k2 - 1 := by omega
              have q2' : wr.cell? ⟨g, k + (k2 - 1), none⟩ = some (.slice A2 hgt c2) := by rw [hadd]; exact q2
              have q3 : wr.frozen? ⟨g, kk, none⟩ = false := HROWr.out.frozenAt kk
              have q4 : wr.cell? ⟨g, kk, none⟩ = some (cs.getD kk undef) := HRr.out kk (by omega) (by omega)
              generalize cs.getD kk undef = ukk at *
              by_cases hdup : ps.getD (k + k2) [] = ps.getD (k + k2 - 1) []
              · have HC : Hid (cmpct (ps.take (k + k2 + 1)) = cmpct (ps.take (k + k2))) := cmpct_dup (by omega) (by rw [HPL.out]; exact hl2) hdup
                have b0 : decide (ps.getD (k + k2) [] = ps.getD (k + k2 - 1) []) = true := decide_eq_true hdup
                rw [b0] at EQ
                clear b0 hdup hadd hsub
                have hsub : ((k2 : Int) - 1).toNat = k2 - 1 := by omega
                go_wp2_with (fail)
                go_quiet ((go_at_call 198; exact Calls.quiet_of (EQ.out _)))
                have HI2 : Hid (InvC (wth S (.slice (some ⟨g, 0, none⟩) n cap)) w base g n cap cs ps (k + (k2 + 1)) kk (wr.drewN nq)) :=
                  ⟨pre, HPK.out, row_drewN HROWr.out _, by rw [← Nat.add_assoc, HC.out]; exact HPVr.out, grown_drewN HGR.out _⟩
                go_wp2_with (fail)
                go_roundw
                case rel => exact ⟨kk, k2 + 1, by omega, by omega, by omega, by omega, rfl, by go_num, HI2.out⟩
                case measure => (simp [intOf]) <;> omega
              · have HC : Hid (cmpct (ps.take (k + k2 + 1)) = cmpct (ps.take (k + k2)) ++ [ps.getD (k + k2) []]) := cmpct_new (by omega) (by rw [HPL.out]; exact hl2) hdup
                have b0 : decide (ps.getD (k + k2) [] = ps.getD (k + k2 - 1) []) = false := decide_eq_false hdup
                rw [b0] at EQ
                clear b0 hdup hadd hsub
                have hsub : ((k2 : Int) - 1).toNat = k2 - 1 := by omega
                go_wp2_with (fail)
                go_quiet ((go_at_call 198; exact Calls.quiet_of (EQ.out _)))
                have HI2 : Hid (InvC (wth S (.slice (some ⟨g, 0, none⟩) n cap)) w base g n cap cs ps (k + (k2 + 1)) (kk + 1) ((wr.drewN nq).setCell ⟨g, kk, none⟩ (.slice A1 hgt c1))) := by
                  refine ⟨pre ++ [.slice A1 hgt c1], by rw [List.length_append, HPK.out]; rfl, ?_, ?_, ?_⟩
                  · have := row_keep (u := .slice A1 hgt c1) (row_drewN HROWr.out nq) HCL.out (by rw [HPK.out]; omega)
                    rwa [HPK.out] at this
                  · rw [← Nat.add_assoc, HC.out]
                    obtain ⟨u, hu, hpu⟩ := HUV.out
                    refine HPVr.out.snoc ?_
                    rw [HU1.out] at hu
                    rw [hu]; exact hpu
                  · exact grown_trans (grown_drewN HGR.out _) ((row_drewN HROWr.out nq).stored kk _).2
                clear HRr HFR EQ
                go_wp2_with (fail)
                go_roundw
                case rel => exact ⟨kk + 1, k2 + 1, by omega, by omega, by omega, by omega, by go_num, by go_num, HI2.out⟩
                case measure => (simp [intOf]) <;> omega
            · have hke : k + k2 = n := by omega
              have hl2i : ¬ (k2 : Int) < ((n - k : Nat) : Int) := by omega
              have hkkn : kk < n := by omega
              have hcl := fun ty => row_clear HROWr.out hkkn 94 Tryz.underlying94 ty
              have hckk : ¬ cap = kk := by omega
              have HR : Hid (RetC S w base g cap (cmpct ps) (.returned (.slice (some ⟨g, 0, none⟩) kk cap)) (wr.setCells g kk (List.replicate (n - kk) (.slice none 0 0)))) := by
                have h := row_cut HROWr.out (List.replicate (n - kk) (.slice none 0 0))
                rw [HPK.out] at h
                have hp := HPVr.out
                rw [hke, List.take_of_length_le (by rw [HPL.out]; exact Nat.le_refl _)] at hp
                have hgr := grown_trans HGR.out h.2
                refine ⟨kk, rfl, ⟨pre, ?_, ?_, HSB.out⟩, hgr⟩
                · have : (cmpct ps).length = kk := by rw [← hp.1, HPK.out]
                  rw [this]; exact h.1
                · exact hp.frm (frm_own (v := .slice (some ⟨g, 0, none⟩) n cap) hgr)
              have hkc2 : (kk : Int) ≤ (cap : Int) := by omega
              have hkc3 : (kk : Int) ≤ (n : Int) := by omega
              clear hw
              go_wp2_with (fail)
              go_ret
              exact HR.out
        · have HC : Hid (cmpct (ps.take (k + 1)) = ps.take (k + 1)) := by
            unfold Hid
            rw [cmpct_new hk1 (by rw [HPL.out]; exact hlt) hdup, hcp.out, take_snoc_getD ps [] (by rw [HPL.out]; exact hlt)]
          have b0 : decide (ps.getD k [] = ps.getD (k - 1) []) = false := decide_eq_false hdup
          rw [b0] at EQ
          clear b0 hdup
          go_wp2_with (fail)
          go_quiet ((go_at_call 198; exact Calls.quiet_of (EQ.out _)))
          have HW2 : Hid (∃ m, wr.drewN nq = w.drewN m) := drw_ex hw.out
          go_wp2_with (fail)
          go_roundw
          case rel => exact ⟨k + 1, by omega, by omega, by go_num, HC.out, HW2.out⟩
          case measure => (simp [intOf]) <;> omega
      · have hkn : k = n := by omega
        have HR : Hid (RetC S w base g cap (cmpct ps) (.returned (.slice (some ⟨g, 0, none⟩) n cap)) wr) := by
          obtain ⟨m, hm⟩ := hw.out
          refine ⟨n, rfl, ?_, by rw [hm]; exact grown_drewN (grown_refl _ _) _⟩
          have e := hcp.out
          rw [hkn, List.take_of_length_le (by rw [HPL.out]; exact Nat.le_refl _)] at e
          rw [e, hm]
          exact OP.frm ⟨cs, by rw [HPL.out]; exact HROW.out, HPV.out, HSB.out⟩ ((Frm.refl _ _).drewN m)
        clear hw
        go_wp2_with (fail)
        go_ret
        exact HR.out
end Go.Proofs.YtlbkfhdnhalpbaaGreat

/- Contract of the program's sorting of positions. There are no conditions. -/
namespace Go.Proofs.YtlbkfhdnhalpbaaGreat
set_option linter.unusedVariables false
set_option linter.unusedSimpArgs false
open Go.RowKit Ps Go.Sort Go.Lib Go.Shelf

theorem heap_sorted {α : Type} [Inhabited α] (enc : α → Value) {w : World} {g : Nat} {cur : Array Value} {e : TypeId} {fr : Nat × Nat} (h : w.heap[g]? = some (.cells cur e fr)) (m : Nat) (d : Array α) (os : Array Obj) :
    (sortWorld enc w g 0 m d os).heap[g]? = some (.cells (putCells enc 0 d cur) e fr) := by
  have hlt := (Array.getElem?_eq_some_iff.1 h).1
  show ((putRow enc (Sort.ahead w m) g 0 d).heap ++ os)[g]? = _
  rw [Array.getElem?_append_left (by simpa using hlt)]
  show (w.heap.modify g (onCells (putCells enc 0 d)))[g]? = _
  rw [Array.getElem?_modify, if_pos rfl, h]; rfl
theorem sorted_grown {α : Type} [Inhabited α] (enc : α → Value) (w : World) (g m : Nat) (d : Array α) (os : Array Obj) : w.grownBy (sortWorld enc w g 0 m d os) (some g) := by
  refine ⟨rfl, rfl, rfl, ?_, fun k hk hn => ?_⟩
  · show w.heap.size ≤ ((putRow enc (Sort.ahead w m) g 0 d).heap ++ os).size
    simp
  · show ((putRow enc (Sort.ahead w m) g 0 d).heap ++ os)[k]? = _
    rw [Array.getElem?_append_left (by simpa using hk)]
    show (w.heap.modify g (onCells (putCells enc 0 d)))[k]? = _
    rw [Array.getElem?_modify, if_neg fun e => hn (by rw [e])]
theorem putCells_take {α : Type} [Inhabited α] (enc : α → Value) (d : Array α) (cur : Array Value) (hd : d.size ≤ cur.size) : (putCells enc 0 d cur).toList.take d.size = d.toList.map enc := by
  apply List.ext_getElem?
  intro i
  by_cases hi : i < d.size
  · rw [List.getElem?_take_of_lt hi, Array.getElem?_toList, putCells, Array.getElem?_mapIdx, Array.getElem?_eq_getElem (by omega : i < cur.size)]
    simp [hi]
  · rw [List.getElem?_eq_none (by simp; omega), List.getElem?_eq_none (by simp; omega)]
theorem row_sorted {α : Type} [Inhabited α] (enc : α → Value) {w : World} {base : Nat} {e : TypeId} {g n cap : Nat} {cs : List Value} (h : w.ownsRow base e 1 (.slice (some ⟨g, 0, none⟩) n cap) n cs) (m : Nat) (d : Array α) (hd : d.size = n) (os : Array Obj) :
    (sortWorld enc w g 0 m d os).ownsRow base e 1 (.slice (some ⟨g, 0, none⟩) n cap) n (d.toList.map enc) := by
  rcases h.2 with ⟨h', _⟩ | ⟨g', cap', cur, h', hb, hg, hnc, hcm, hcs, htake⟩
  · simp at h'
  · simp only [Value.slice.injEq, Option.some.injEq, Addr.mk.injEq, and_true, true_and] at h'
    obtain ⟨rfl, rfl⟩ := h'
    refine ⟨by simp [hd], .inr ⟨g, cap, _, rfl, hb, heap_sorted enc hg m d os, hnc, hcm, by simpa [putCells] using hcs, ?_⟩⟩
    have := putCells_take enc d cur (by omega)
    rwa [hd, ← Nat.mul_one n] at this

/-! ### elements that read as positions -/
def El (T : Nat → Prop) (w : World) (n : Nat) : Type := {x : Value × List Int // PV T w x.1 x.2 ∧ x.2.length = n ∧ ∀ y ∈ x.2, 0 ≤ y ∧ y ≤ 1000}
def El.v {T : Nat → Prop} {w : World} {n : Nat} (x : El T w n) : Value := x.1.1
def El.p {T : Nat → Prop} {w : World} {n : Nat} (x : El T w n) : List Int := x.1.2
theorem El.ok {T : Nat → Prop} {w : World} {n : Nat} (x : El T w n) : PV T w x.v x.p ∧ x.p.length = n ∧ ∀ y ∈ x.p, 0 ≤ y ∧ y ≤ 1000 := x.2
theorem els_ex {T : Nat → Prop} {w : World} {n : Nat} : ∀ {cs : List Value} {ps : List (List Int)}, PVs T w cs ps → (∀ p ∈ ps, p.length = n ∧ ∀ y ∈ p, 0 ≤ y ∧ y ≤ 1000) → ∃ l : List (El T w n), l.map El.v = cs ∧ l.map El.p = ps
  | [], [], _, _ => ⟨[], rfl, rfl⟩
  | [], _ :: _, h, _ => by have := h.1; simp at this
  | _ :: _, [], h, _ => by have := h.1; simp at this
  | c :: cs, p :: ps, h, hp => by
    have h0 : PV T w c p := by have := h.2 0 (by simp); simpa using this
    obtain ⟨l, h1, h2⟩ := els_ex (cs := cs) (ps := ps) (by have := h.drop 1; simpa using this) fun q hq => hp q (by simp [hq])
    exact ⟨⟨(c, p), h0, hp p (by simp)⟩ :: l, congrArg (c :: ·) h1, congrArg (p :: ·) h2⟩
theorem els_pvs {T : Nat → Prop} {w : World} {n : Nat} (l : List (El T w n)) : PVs T w (l.map El.v) (l.map El.p) := by
  refine ⟨by simp, fun i hi => ?_⟩
  have hi' : i < l.length := by simpa using hi
  have := (l[i]).ok.1
  simpa [List.getD, hi'] using this
def cfP {T : Nat → Prop} {w : World} {n : Nat} (x y : El T w n) : Int := cmpI x.p y.p
theorem lt_bef {T : Nat → Prop} {w : World} {n : Nat} (x y : El T w n) : ltOf cfP x y = true ↔ Bef x.p y.p := by
  unfold ltOf cfP; rw [decide_eq_true_eq]; exact cmpI_lt
theorem lt_nbef {T : Nat → Prop} {w : World} {n : Nat} (x y : El T w n) : ltOf cfP x y = false ↔ ¬ Bef x.p y.p := by
  rw [← lt_bef]; simp
theorem cfP_swo (T : Nat → Prop) (w : World) (n : Nat) : SWO (ltOf (cfP (T := T) (w := w) (n := n))) := by
  refine ⟨fun x => (lt_nbef _ _).2 (bef_irrefl _), fun x y z h1 h2 => (lt_bef _ _).2 (bef_trans (by rw [x.ok.2.1, y.ok.2.1]) ((lt_bef _ _).1 h1) ((lt_bef _ _).1 h2)), fun x y z h1 h2 => (lt_nbef _ _).2 fun h => ?_⟩
  have h1 := (lt_nbef _ _).1 h1
  have h2 := (lt_nbef _ _).1 h2
  rcases bef_total (p := x.p) (q := y.p) (by rw [x.ok.2.1, y.ok.2.1]) with h3 | h3 | h3
  · exact h1 h3
  · rw [h3] at h; exact h2 h
  · exact h2 (bef_trans (by rw [x.ok.2.1, y.ok.2.1]) h3 h)

def RetSort (S : Nat → Prop) (w : World) (base : Nat) (v : Value) (ps : List (List Int)) (e : Ending) (w' : World) : Prop :=
  e = .returned (.tuple #[]) ∧ ∃ qs, OP S w' base 24 v qs ∧ qs.length = ps.length ∧ (∀ x, x ∈ qs ↔ x ∈ ps) ∧ qs.Pairwise (fun p q => ¬ Bef q p) ∧ w.grownBy w' v.ownBlock
theorem SortFunc_any (S : Nat → Prop) (base g n cap hgt : Nat) (ps : List (List Int)) (w : World) (h : OP S w base 24 (.slice (some ⟨g, 0, none⟩) n cap) ps) (hn : n ≤ 1000000000) (hnl : ps.length = n) (hn0 : 0 < n) (hl : ∀ p ∈ ps, p.length = hgt ∧ ∀ y ∈ p, 0 ≤ y ∧ y ≤ 1000) (hh : hgt ≤ 2000) :
    Calls Tryz.prog 195 #[.slice (some ⟨g, 0, none⟩) n cap, .func (.func 196) #[] #[]] w (RetSort S w base (.slice (some ⟨g, 0, none⟩) n cap) ps) := by
  obtain ⟨cs, hrow, hpv, hsb⟩ := h
  rw [hnl] at hrow
  obtain ⟨T, hT⟩ : ∃ T, T = wth S (.slice (some ⟨g, 0, none⟩) n cap) := ⟨_, rfl⟩
  rw [← hT] at hpv
  have hFT : ∀ w', w.grownBy w' (some g) → Frm T w w' := fun w' hgr => by rw [hT]; exact frm_own (v := .slice (some ⟨g, 0, none⟩) n cap) hgr
  obtain ⟨l, hl1, hl2⟩ := els_ex hpv hl
  have hll : l.length = n := by rw [← hnl, ← hl2]; exact (List.length_map _).symm
  have hblk : g < w.heap.size := (World.ownsRow.lt hrow g rfl).2
  cases l with
  | nil => simp at hll; omega
  | cons x0 l0 =>
    letI : Inhabited (El T w hgt) := ⟨x0⟩
    generalize hL : x0 :: l0 = L at *
    have hsz : L.toArray.size = n := by simpa using hll
    have h1 : OneCell (El.v (T := T) (w := w) (n := hgt)) := fun x => by
      obtain ⟨A, m, c, hu, _⟩ := x.ok.1
      rw [hu]; rfl
    have hH : Holds El.v w g 0 L.toArray := fun j hj => by
      rw [hsz] at hj
      rw [Nat.zero_add]
      refine ⟨?_, hrow.frozenAt j⟩
      rw [hrow.cellAt j (by omega), ← hl1]
      simp [show j < L.length by omega]
    have hC : CmpReads Tryz.prog 196 #[] El.v (cfP (T := T) (w := w) (n := hgt)) g 0 L.toArray.size w := fun m os dk _ x y => by
      have hfr : Frm T w (sortWorld El.v w g 0 m dk os) := hFT _ (sorted_grown El.v w g m dk os)
      obtain ⟨⟨A, m1, c1, hu1, hs1, _⟩, hx2, hx3⟩ := x.ok
      obtain ⟨⟨B, m2, c2, hu2, hs2, _⟩, hy2, hy3⟩ := y.ok
      have e1 : hgt = m1 := by rw [← hs1.1.1, hx2]
      have e2 : hgt = m2 := by rw [← hs2.1.1, hy2]
      subst e1 e2
      rw [hu1, hu2]
      exact compareBearoffs_any A B hgt c1 c2 x.p y.p _ (hs1.frm hfr).1 (hs2.frm hfr).1 hh hx3 hy3
    have key := Tryz.slices_SortFunc El.v h1 cfP (cfP_swo _ _ _) 196 #[] g 0 cap L.toArray w (fun args w => by kernel_rfl) hC.lays hH hblk (by omega)
    rw [hsz] at key
    refine key.mono ?_
    rintro e w' ⟨rfl, d', nq, os, hperm, hsorted, rfl⟩
    have hd : d'.size = n := by rw [hperm.1, hsz]
    refine ⟨rfl, d'.toList.map El.p, ⟨d'.toList.map El.v, ?_, ?_, hsb⟩, by simp [hd, hnl], fun x => ?_, ?_, sorted_grown _ _ _ _ _ _⟩
    · have := row_sorted El.v hrow nq d' hd os
      simpa [hd] using this
    · rw [← hT]; exact (els_pvs d'.toList).frm (hFT _ (sorted_grown El.v w g nq d' os))
    · have hp : d'.toList.Perm L := by
        have h := hperm.2.2
        rw [show d'.extract 0 n = d' by rw [← hd]; simp, show L.toArray.extract 0 n = L.toArray by rw [← hsz]; exact Array.extract_size] at h
        simpa using h
      rw [(hp.map El.p).mem_iff, hl2]
    · rw [List.pairwise_map, List.pairwise_iff_getElem]
      intro i j hi hj hij
      have := hsorted i j (Nat.zero_le _) hij (by simp at hj; omega)
      have h2 := (lt_nbef _ _).1 this
      simp at hi hj
      simpa [hi, hj] using h2

/-- A sorted list handed back, each position once. -/
def RetSP (S : Nat → Prop) (w : World) (base : Nat) (v : Value) (ps : List (List Int)) (e : Ending) (w' : World) : Prop :=
  ∃ v', e = .returned v' ∧ OP S w' base 24 v' (sortU ps) ∧ v'.ownBlock = v.ownBlock ∧ w.grownBy w' v.ownBlock
theorem sortedPositions_any (S : Nat → Prop) (base n hgt : Nat) (v : Value) (ps : List (List Int)) (w : World) (h : OP S w base 24 v ps) (hn : n ≤ 1000000000) (hnl : ps.length = n) (hn0 : 0 < n) (hl : ∀ p ∈ ps, p.length = hgt ∧ ∀ y ∈ p, 0 ≤ y ∧ y ≤ 1000) (hh : hgt ≤ 2000) :
    Calls Tryz.prog 181 #[v] w (RetSP S w base v ps) := by
  have h0 := h
  obtain ⟨cs, hrow, _, _⟩ := h0
  obtain ⟨_, h3⟩ := hrow
  rcases h3 with ⟨h3, h4⟩ | ⟨g, cap, cur, rfl, _⟩
  · omega
  · rw [hnl] at h ⊢
    have CS := Lib.hid (SortFunc_any S base g n cap hgt ps w h hn hnl hn0 hl hh)
    have CC : Hid (∀ (W : World) (qs : List (List Int)), OP S W base 24 (.slice (some ⟨g, 0, none⟩) n cap) qs → qs.length = ps.length → (∀ x, x ∈ qs ↔ x ∈ ps) → Calls Tryz.prog 197 #[.slice (some ⟨g, 0, none⟩) n cap, .func (.func 198) #[] #[]] W (RetC S W base g cap (cmpct qs))) := fun W qs hq h1 h2 =>
      CompactFunc_any S base g n cap hgt qs W hq hn (by rw [h1, hnl]) (fun p hp => (hl p ((h2 p).1 hp)).1) hh
    have HL := Lib.hid hl
    clear h hl hnl
    go_enter Tryz.func181, Tryz.ntmps181
    go_wp2_with (fail)
    refine CS.out.mono ?_
    rintro e w1 ⟨rfl, qs, hq, hq1, hq2, hq3, hg1⟩
    have CC2 := Lib.hid (CC.out w1 qs hq hq1 hq2)
    have HS : Hid (cmpct qs = sortU ps) := cmpct_sortU (n := hgt) (fun p hp => (HL.out p hp).1) hq2 hq3
    have HG := Lib.hid hg1
    clear hq hq1 hq2 hq3 hg1 CC CS
    go_wp2_with (fail)
    refine CC2.out.mono ?_
    rintro e w2 ⟨k, rfl, ho, hg2⟩
    have HR : Hid (RetSP S w base (.slice (some ⟨g, 0, none⟩) n cap) ps (.returned (.slice (some ⟨g, 0, none⟩) k cap)) w2) :=
      ⟨_, rfl, by rw [← HS.out]; exact ho, rfl, grown_trans HG.out hg2⟩
    clear ho hg2
    go_wp2_with (fail)
    go_ret
    exact HR.out
end Go.Proofs.YtlbkfhdnhalpbaaGreat

/- Plain facts on the program's rows of positions, and words for the walk of its results. There are no conditions. -/
namespace Go.Proofs.YtlbkfhdnhalpbaaGreat
set_option linter.unusedVariables false
set_option linter.unusedSimpArgs false
open Go.RowKit Ps

theorem rowL_snoc (ds : List Nat) (d : Nat) : ∀ row : List (List Int), rowL (ds ++ [d]) row = sortU ((rowL ds row).flatMap (adv d)) := by
  induction ds with
  | nil => intro row; rfl
  | cons e ds ih => intro row; exact ih _
theorem flat_len {row : List (List Int)} {d : Nat} (h : ∀ q ∈ row, (adv d q).length ≤ 24) : (row.flatMap (adv d)).length ≤ row.length * 24 := by
  induction row with
  | nil => simp
  | cons q row ih =>
    have h1 := h q (by simp)
    have h2 := ih fun p hp => h p (by simp [hp])
    simp only [List.flatMap_cons, List.length_append, List.length_cons]; omega
theorem adv_len {n c d : Nat} {q : List Int} (hq : PosP n c q) (hn : n ≤ 24) : (adv d q).length ≤ 24 := by
  unfold adv
  split
  · simp
  · have := stepsN_len (p := q) (d := d) q.length
    unfold stepsL
    have := hq.1
    omega
theorem rowL_all {n c : Nat} {ds : List Nat} {p : List Int} (hd : ∀ d ∈ ds, 1 ≤ d) (hp : PosP n c p) : ∀ q ∈ rowL ds [p], PosP n c q :=
  (rowL_spec (row := [p]) hd fun q hq => by have : q = p := by simpa using hq
                                            rw [this]; exact hp).2
theorem rowL_some {n c : Nat} {ds : List Nat} {p : List Int} (hd : ∀ d ∈ ds, 1 ≤ d) (hp : PosP n c p) : rowL ds [p] ≠ [] := by
  have h1 := (rowL_spec (row := [p]) hd fun q hq => by have : q = p := by simpa using hq
                                                       rw [this]; exact hp).1
  intro e
  obtain ⟨x, hx⟩ := List.exists_mem_of_ne_nil _ (reach_some hd hp)
  have := (h1 x).2 ⟨p, by simp, hx⟩
  rw [e] at this; simp at this
theorem rowL_len {n c : Nat} (hn : n ≤ 24) : ∀ {ds : List Nat} {p : List Int}, (∀ d ∈ ds, 1 ≤ d) → PosP n c p → (rowL ds [p]).length ≤ 24 ^ ds.length := by
  intro ds
  induction ds using snoc_ind with
  | nil => intro p _ _; exact Nat.le_refl _
  | snoc ds d ih =>
    intro p hd hp
    have hd' : ∀ e ∈ ds, 1 ≤ e := fun e he => hd e (by simp [he])
    rw [rowL_snoc]
    have h1 := sortU_len ((rowL ds [p]).flatMap (adv d))
    have h2 := flat_len (row := rowL ds [p]) (d := d) fun q hq => adv_len (rowL_all hd' hp q hq) hn
    have h3 := ih hd' hp
    rw [List.length_append, List.length_singleton, Nat.pow_succ]
    have : (rowL ds [p]).length * 24 ≤ 24 ^ ds.length * 24 := Nat.mul_le_mul_right _ h3
    omega
theorem dice_len {a b : Nat} : (dice a b).length ≤ 2 ∧ ∀ ds ∈ dice a b, ds.length ≤ 4 := by
  unfold dice
  split
  · refine ⟨by simp, fun ds h => ?_⟩
    have : ds = [a, a, a, a] := by simpa using h
    subst this; simp
  · refine ⟨by simp, fun ds h => ?_⟩
    simp at h
    rcases h with rfl | rfl <;> simp
theorem pow4 {k : Nat} (h : k ≤ 4) : 24 ^ k ≤ 331776 := Nat.le_trans (Nat.pow_le_pow_right (by omega) h) (by decide)
theorem pow3 {k : Nat} (h : k ≤ 3) : 24 ^ k ≤ 13824 := Nat.le_trans (Nat.pow_le_pow_right (by omega) h) (by decide)
/-- The rows of the first k lists of dice. -/
noncomputable def rowsF (p : List Int) (l : List (List Nat)) : List (List Int) := l.flatMap fun ds => rowL ds [p]
theorem rowsF_snoc (p : List Int) (l : List (List Nat)) (ds : List Nat) : rowsF p (l ++ [ds]) = rowsF p l ++ rowL ds [p] := by unfold rowsF; simp
theorem rowsF_len {n c : Nat} (hn : n ≤ 24) {p : List Int} (hp : PosP n c p) : ∀ {l : List (List Nat)}, (∀ ds ∈ l, (∀ d ∈ ds, 1 ≤ d) ∧ ds.length ≤ 4) → (rowsF p l).length ≤ l.length * 331776
  | [], _ => by simp [rowsF]
  | ds :: l, h => by
    have h1 := rowL_len hn (h ds (by simp)).1 hp
    have h2 := pow4 (h ds (by simp)).2
    have h3 := rowsF_len hn hp (l := l) fun e he => h e (by simp [he])
    unfold rowsF at h3 ⊢
    simp only [List.flatMap_cons, List.length_append, List.length_cons]; omega
theorem castD_len (l : List (List Nat)) : (castD l).length = l.length := by simp [castD]
theorem castD_get (l : List (List Nat)) {i : Nat} (h : i < l.length) : (castD l).getD i [] = (l.getD i []).map (Nat.cast : Nat → Int) := by
  unfold castD; rw [getD_map _ l [] [] h]
theorem cast_get (l : List Nat) {j : Nat} (h : j < l.length) : (l.map (Nat.cast : Nat → Int)).getD j 0 = ((l.getD j 0 : Nat) : Int) := getD_map _ l 0 0 h
theorem flat_take {row : List (List Int)} {d k : Nat} (h : k < row.length) : (row.take (k + 1)).flatMap (adv d) = (row.take k).flatMap (adv d) ++ adv d (row.getD k []) := by
  rw [take_snoc_getD row [] h, List.flatMap_append]; simp
theorem OP.slice {S : Nat → Prop} {w : World} {base : Nat} {e : TypeId} {v : Value} {ps : List (List Int)} (h : OP S w base e v ps) (hne : ps ≠ []) :
    ∃ g c, v = .slice (some ⟨g, 0, none⟩) ps.length c ∧ PL S w (some ⟨g, 0, none⟩) ps.length ps ∧ ps.length ≤ c ∧ base ≤ g := by
  have h2 := h
  obtain ⟨A, c, hv, hpl, hc⟩ := h2.read
  obtain ⟨cs, ⟨_, h3⟩, _, _⟩ := h
  rcases h3 with ⟨h3, h4⟩ | ⟨g, cap, cur, h3, h4, _⟩
  · exact absurd (List.eq_nil_of_length_eq_zero h4) hne
  · rw [hv] at h3
    injection h3 with h5 h6 h7
    subst h5 h7
    exact ⟨g, c, hv, hpl, hc, h4⟩
end Go.Proofs.YtlbkfhdnhalpbaaGreat

/- Contract of the results of a roll, the program's. There are no conditions. -/
namespace Go.Proofs.YtlbkfhdnhalpbaaGreat
set_option linter.unusedVariables false
set_option linter.unusedSimpArgs false
open Go.RowKit Ps

/-- A call hands back a list of its own. -/
def RetO1 (S : Nat → Prop) (w : World) (ps : List (List Int)) (e : Ending) (w' : World) : Prop := ∃ v, e = .returned v ∧ OP S w' w.heap.size 24 v ps ∧ Below w.heap.size w w'
theorem PVs.less {S S' : Nat → Prop} {w : World} {cs : List Value} {ps : List (List Int)} (h : PVs S w cs ps) (hS : ∀ k, S' k → S k) : PVs S' w cs ps := h.set fun k hk => .inl (hS k hk)

set_option maxRecDepth 100000 in
set_option maxHeartbeats 4000000 in
theorem bearoffResults_any (S : Nat → Prop) (A : Option Addr) (n c a b : Nat) (p : List Int) (w : World) (hx : SQ S w A n p) (hc : n ≤ c) (hp : PosP n 15 p) (hn : n ≤ 24) (hn0 : 0 < n) (hb1 : 1 ≤ b) (hba : b ≤ a) (ha6 : a ≤ 6) (hS : ∀ k, w.heap.size ≤ k → ¬ S k) :
    Calls Tryz.prog 125 #[.slice A n c, .agg #[.int .i64 a, .int .i64 b]] w (RetO1 S w (resultsL p a b)) := by
  obtain ⟨i0, hi, hz0, hz1, hz2⟩ := info_parts Tryz.infoL
  have HX := Lib.hid hx
  have HP := Lib.hid hp
  have HSS := Lib.hid hS
  have HDP := Lib.hid (dice_pos (a := a) (b := b) (by omega) hb1)
  have HDL := Lib.hid (dice_len (a := a) (b := b))
  have HRES : Hid (sortU (rowsF p (dice a b)) = resultsL p a b) := rows_results (by omega) hb1 hp
  have HRNE : Hid (resultsL p a b ≠ []) := results_some (by omega) hb1 hp
  have HB0 : Hid (Below w.heap.size w (w.alloc (.cells #[.int .i64 a, .int .i64 b] 39))) := (Below.refl _ _).alloc (Nat.le_refl _) _
  clear hx hp hS
  have HDM : Hid (∀ ds ∈ dice a b, ∀ d ∈ ds, d ≤ 6) := by
    intro ds hds d hd
    unfold dice at hds
    split at hds
    · have : ds = [a, a, a, a] := by simpa using hds
      subst this; simp at hd; omega
    · simp at hds
      rcases hds with rfl | rfl <;> (simp at hd; omega)
  go_enter Tryz.func125, Tryz.ntmps125
  go_wp2_with (fail)
  refine (ordersOf_any S a b _ (fun k hk => HSS.out k (by simp at hk; omega))).mono ?_
  rintro e w1 ⟨bo, oo, no, co, rfl, hpo, hco, hb⟩
  have HB1 : Hid (Below w.heap.size w w1) := HB0.out.trans (hb.mono (by simp))
  have HPO := Lib.hid hpo
  have hno : no = (dice a b).length := by rw [← hpo.len, castD_len]
  generalize hD : dice a b = D at *
  have HNO := Lib.hid hno
  have hno2 : no ≤ 2 := by have := HDL.out.1; omega
  clear hpo hb hno hD
  go_wp2_with (fail)
  go_loopw [5, 17] (fun v5 v17 wr => ∃ i : Nat, i ≤ no ∧ v17 = .int .i64 i ∧ (∃ vx, vx = v5 ∧ OP S wr w1.heap.size 24 vx (rowsF p (D.take i))) ∧ Below w1.heap.size w1 wr) (fun _ v17 _ => no - (intOf v17).toNat)
  case atStart => exact ⟨0, by omega, rfl, ⟨_, rfl, OP.nil_ _ _ _ _⟩, Below.refl _ _⟩
  case round =>
    obtain ⟨wa, rfl⟩ : ∃ wa : World, wa = wr := ⟨_, rfl⟩
    obtain ⟨i, hi', rfl, ⟨vx, rfl, hO⟩, hb⟩ := hrel
    have HO := Lib.hid hO
    have HBr := Lib.hid hb
    clear hO hb
    by_cases hlt : i < no
    · have hli : (i : Int) < (no : Int) := by omega
      obtain ⟨_, _, Bo, mo, cq, hA, hz, hcell, hso, hmo⟩ := (HPO.out.below HBr.out).at hlt
      injection hA with hA
      injection hA with hA1 hA2
      subst hA1 hA2
      have hmem := getD_mem' D ([] : List Nat) (k := i) (by have := HNO.out; omega)
      rw [castD_get D (by have := HNO.out; omega)] at hso
      have HTK : Hid (D.take (i + 1) = D.take i ++ [D.getD i []]) := take_snoc_getD D [] (by have := HNO.out; omega)
      have hd1 := HDP.out _ hmem
      have hd2 := HDL.out.2 _ hmem
      have hd3 := HDM.out _ hmem
      generalize D.getD i [] = dl at *
      have HD1 := Lib.hid hd1.1
      have HD2 := Lib.hid hd2
      have HD3 := Lib.hid hd3
      have hmd : mo = dl.length := by rw [← hso.1.1, List.length_map]
      have HMD := Lib.hid hmd
      have hmo4 : mo ≤ 4 := by omega
      have HDS := Lib.hid hso.1
      obtain ⟨T, hT⟩ : ∃ T, T = wth S vx := ⟨_, rfl⟩
      have HTS : Hid (∀ k, wa.heap.size ≤ k → ¬ T k) := fun k hk h => by
        rw [hT] at h
        rcases h with h | h
        · exact HSS.out k (Nat.le_trans (Nat.le_trans HB1.out.size HBr.out.size) hk) h
        · have := (HO.out.lt k h).2; omega
      have HTT := Lib.hid hT
      clear hmem hd1 hd2 hd3 hmd hso hT
      have HXr : Hid (SL wa A n p) := HX.out.1.below (HB1.out.trans (HBr.out.mono HB1.out.size))
      go_wp2_with (fail)
      refine (Clone_full A n c p wa (by exact HXr.out) (by omega) hn0).mono ?_
      rintro e w2 ⟨gc, cc, rfl, hoc, hgc1, hgc2, _, _, hbc⟩
      have HPL0 : Hid (OP T (w2.alloc (.cells #[.slice (some ⟨gc, 0, none⟩) n cc] 24)) wa.heap.size 24 (.slice (some ⟨w2.heap.size, 0, none⟩) 1 1) [p]) :=
        OP.made w2 (cs := [.slice (some ⟨gc, 0, none⟩) n cc]) (ps := [p]) hbc.size HTS.out (PVs.one (PV.own hoc HTS.out)) (by unfold maxLen; simp)
      have HB2 : Hid (Below wa.heap.size wa (w2.alloc (.cells #[.slice (some ⟨gc, 0, none⟩) n cc] 24))) := hbc.alloc hbc.size _
      have HPL1 : Hid (PL T (w2.alloc (.cells #[.slice (some ⟨gc, 0, none⟩) n cc] 24)) (some ⟨w2.heap.size, 0, none⟩) 1 [p]) := by
        obtain ⟨_, _, hv, hpl, _⟩ := HPL0.out.read
        injection hv with h1 h2 h3
        subst h1
        exact hpl
      clear hoc hgc1 hgc2 hbc HPL0
      go_wp2_with (fail)
      generalize hV : w2.alloc (.cells #[.slice (some ⟨gc, 0, none⟩) n cc] 24) = V at *
      clear hV
      generalize w2.heap.size = g2 at *
      have hmo64 : (mo : Int) ≤ 9223372036854775807 := by omega
      go_loopw [8, 26] (fun v8 v26 ws => ∃ j br or' nr cr : Nat, j ≤ mo ∧ v26 = .int .i64 j ∧ v8 = .slice (some ⟨br, or', none⟩) nr cr ∧ nr ≤ cr ∧ Hid (PL T ws (some ⟨br, or', none⟩) nr (rowL (dl.take j) [p])) ∧ Hid (Below V.heap.size V ws)) (fun _ v26 _ => mo - (intOf v26).toNat)
      case atStart => exact ⟨0, g2, 0, 1, 1, by omega, rfl, rfl, by omega, HPL1.out, Below.refl _ _⟩
      case round =>
        obtain ⟨ws, rfl⟩ : ∃ ws : World, ws = wr := ⟨_, rfl⟩
        clear HPL1
        obtain ⟨j, br, or', nr, cr, hj, rfl, rfl, hncr, HRow, HBs⟩ := hrel
        by_cases hjl : j < mo
        · have hlj : (j : Int) < (mo : Int) := by omega
          have HDS2 : SL ws Bo mo (dl.map (Nat.cast : Nat → Int)) := (HDS.out.below HB2.out).below HBs.out
          obtain ⟨bd, od, rfl, hzd, hcd⟩ := HDS2.2 (by omega)
          have hdc := hcd j hjl
          rw [cast_get dl (by have := HMD.out; omega)] at hdc
          have hdm := getD_mem' dl (0 : Nat) (k := j) (by have := HMD.out; omega)
          have hde1 := HD1.out _ hdm
          have hde6 := HD3.out _ hdm
          have HTJ : Hid (dl.take (j + 1) = dl.take j ++ [dl.getD j 0]) := take_snoc_getD dl 0 (by have := HMD.out; omega)
          have htj : ∀ d ∈ dl.take j, 1 ≤ d := fun d hd => HD1.out d (List.mem_of_mem_take hd)
          have HRP := Lib.hid (rowL_all htj HP.out)
          have HRL : Hid ((rowL (dl.take j) [p]).length ≤ 13824) := Nat.le_trans (rowL_len hn htj HP.out) (pow3 (by rw [List.length_take]; omega))
          have HRSOME := Lib.hid (rowL_some htj HP.out)
          have HRN : Hid ((rowL (dl.take j) [p]).length = nr) := HRow.out.len
          have HRNX := Lib.hid (rowL_snoc (dl.take j) (dl.getD j 0) [p])
          generalize rowL (dl.take j) [p] = row at *
          generalize dl.getD j 0 = d at *
          have hnr : nr ≤ 13824 := by rw [← HRN.out]; exact HRL.out
          have HTW : Hid (∀ k, ws.heap.size ≤ k → ¬ T k) := fun k hk => HTS.out k (Nat.le_trans (Nat.le_trans HB2.out.size HBs.out.size) hk)
          clear HDS2 hcd hdm htj
          go_wp2_with (fail)
          go_loopw [11, 32] (fun v11 v32 wt => ∃ k : Nat, k ≤ nr ∧ v32 = .int .i64 k ∧ (∃ vn, vn = v11 ∧ OP T wt ws.heap.size 24 vn ((row.take k).flatMap (adv d))) ∧ Below ws.heap.size ws wt) (fun _ v32 _ => nr - (intOf v32).toNat)
          case atStart => exact ⟨0, by omega, rfl, ⟨_, rfl, OP.nil_ _ _ _ _⟩, Below.refl _ _⟩
          case round =>
            obtain ⟨wt, rfl⟩ : ∃ wt : World, wt = wr := ⟨_, rfl⟩
            obtain ⟨k, hk, rfl, ⟨vn, rfl, hON⟩, hbt⟩ := hrel
            have HON := Lib.hid hON
            have HBt := Lib.hid hbt
            clear hON hbt
            by_cases hkl : k < nr
            · have hlk : (k : Int) < (nr : Int) := by omega
              obtain ⟨_, _, Bq, mq, cq2, hA, hzq, hcellq, _, hmq⟩ := (HRow.out.below HBt.out).at hkl
              injection hA with hA
              injection hA with hA1 hA2
              subst hA1 hA2
              have hqs : PV (fun k => T k ∨ ws.heap.size ≤ k) ws (.slice Bq mq cq2) (row.getD k []) := by
                obtain ⟨_, _, Bq', mq', cq', hA', _, hcell', hsq', hmq'⟩ := HRow.out.at hkl
                injection hA' with hA'
                injection hA' with hA1' hA2'
                subst hA1' hA2'
                have := keep_cell hcell' HBt.out
                rw [hcellq] at this
                injection this with this
                injection this with e1 e2 e3
                subst e1 e2 e3
                exact ⟨_, _, _, rfl, hsq'.set fun k hk => hk, hmq'⟩
              have HQS := Lib.hid hqs
              have hqp := HRP.out _ (getD_mem' row [] (by rw [HRN.out]; exact hkl))
              have HFT : Hid ((row.take (k + 1)).flatMap (adv d) = (row.take k).flatMap (adv d) ++ adv d (row.getD k [])) := flat_take (by rw [HRN.out]; exact hkl)
              have hml : mq = n := by
                obtain ⟨_, _, _, he, hs, _⟩ := hqs
                injection he with e1 e2 e3
                subst e1 e2 e3
                rw [← hs.1.1]; exact hqp.1
              subst hml
              have hsl : SL wt Bq mq (row.getD k []) := by
                obtain ⟨_, _, _, he, hs, _⟩ := hqs
                injection he with e1 e2 e3
                subst e1 e2 e3
                exact hs.1.below HBt.out
              have HSL := Lib.hid hsl
              have HQP := Lib.hid hqp
              have HOL : Hid (((row.take k).flatMap (adv d)).length ≤ 331776) := by
                unfold Hid
                have := flat_len (row := row.take k) (d := d) fun q hq => adv_len (HRP.out q (List.mem_of_mem_take hq)) hn
                have h2 : (row.take k).length ≤ nr := by rw [List.length_take, HRN.out]; omega
                omega
              clear hqs hqp hsl
              generalize row.getD k [] = q at *
              have hmq24 : mq ≤ 24 := hn
              have TOT : Hid (Calls Tryz.prog 78 #[.slice Bq mq cq2] wt fun e w' => e = .returned (.int .i64 q.sum) ∧ wt = w') := total_any Bq mq cq2 q wt HSL.out HQP.out.2.1 (by have := HQP.out.2.2; omega) (by omega)
              obtain ⟨csn, hrow, hpv, _⟩ := HON.out
              have hvlt := HON.out.lt
              have HVL := Lib.hid hvlt
              by_cases hs0 : q.sum = 0
              · have b0 : (q.sum == 0) = true := by simp [hs0]
                have HAD : Hid (adv d q = [q]) := if_pos hs0
                have HROW := Lib.hid (row_alloc hrow (.cells #[.slice Bq mq cq2] 24))
                have HPV := Lib.hid (hpv.frm ((Frm.refl (wth T vn) _).alloc (.cells #[.slice Bq mq cq2] 24)))
                have HPE : Hid (PVs (wth T vn) (wt.alloc (.cells #[.slice Bq mq cq2] 24)) [.slice Bq mq cq2] [q]) := (PVs.one HQS.out).into (HBt.out.alloc HBt.out.size _) (fun x hx => (HVL.out x hx).1)
                clear hrow hpv hvlt hs0
                go_wp2_with (first
                  | (go_at_call 78; (with_reducible refine TOT.out.mono ?_); rintro e w' ⟨rfl, rfl⟩)
                  | (at_builtin; (refine wpList_append_own_at _ rfl _ _ 94 rfl ws.heap.size 24 i0 (.slice none 0 0) 1 24 Tryz.underlying94 hi hz0 hz1 hz2 rfl (by decide) _ _ _ rfl HROW.out ⟨wt.heap.size, 0, none⟩ 1 1 [.slice Bq mq cq2] rfl rfl (one_new _ _ _) (slice_cell _ _ _) (by have := HOL.out; unfold maxLen; omega) (by have := HOL.out; omega) (by have h1 := HBt.out.size; simp; omega) ?_); intro v' w9 hown hgrow _ hat))
                have HO2 : Hid (OP T w9 ws.heap.size 24 v' ((row.take k).flatMap (adv d) ++ [q])) := OP.grew HPV.out HPE.out hown rfl hgrow hat HTW.out
                have HB9 : Hid (Below ws.heap.size ws w9) := (HBt.out.alloc HBt.out.size _).grown hgrow (by have h1 := HBt.out.size; simp; omega) (fun x hx => (HVL.out x hx).1)
                clear hown hgrow hat HROW HPV HPE
                go_wp2_with (fail)
                go_roundw
                case rel => exact ⟨k + 1, by omega, by go_num, ⟨_, rfl, by rw [HFT.out, HAD.out]; exact HO2.out⟩, HB9.out⟩
                case measure => (simp [intOf]) <;> omega
              · have b0 : (q.sum == 0) = false := by simp [hs0]
                have HAD : Hid (adv d q = stepsL q d) := if_neg hs0
                have HSN : Hid (stepsL q d ≠ []) := steps_some HQP.out.2.1 hs0
                have HSLN : Hid ((stepsL q d).length ≤ 24) := by unfold Hid; rw [← HAD.out]; exact adv_len HQP.out hn
                have STP : Hid (Calls Tryz.prog 180 #[.slice Bq mq cq2, .int .i64 d] wt fun e w' => ∃ v, e = .returned v ∧ OP (wth T vn) w' wt.heap.size 24 v (stepsL q d) ∧ Below wt.heap.size wt w') :=
                  bearoffSteps_any (wth T vn) Bq mq cq2 d q wt HSL.out HQP.out.2.1 HQP.out.2.2 hn hn0 hde1 hde6 (fun x hx => by
                    rintro (h | h)
                    · exact HTW.out x (Nat.le_trans HBt.out.size hx) h
                    · have := (HVL.out x h).2; omega)
                clear hs0 hvlt
                have HROW0 := Lib.hid hrow
                have HPV0 := Lib.hid hpv
                clear hrow hpv
                go_wp2_with (go_at_call 78; (with_reducible refine TOT.out.mono ?_); rintro e w' ⟨rfl, rfl⟩)
                refine STP.out.mono ?_
                rintro e w8 ⟨vs, rfl, hos, hb8⟩
                obtain ⟨gs, cs8, rfl, hpl8, hcs8, _⟩ := hos.slice HSN.out
                obtain ⟨css, hrows, hpvs, _⟩ := hos
                have HROW := Lib.hid (own_below HROW0.out hb8)
                have HPV : Hid (PVs (wth T vn) w8 csn ((row.take k).flatMap (adv d))) := HPV0.out.frm (Frm.of_below' _ hb8)
                have HPE : Hid (PVs (wth T vn) w8 css (stepsL q d)) := hpvs.less fun x hx => .inl hx
                have HB8 : Hid (Below ws.heap.size ws w8) := HBt.out.trans (hb8.mono HBt.out.size)
                have HNW : Hid (∀ x u, css[x]? = some u → w8.cell? ((⟨gs, 0, none⟩ : Addr).add x) = some u) := fun x u hu => by
                  have hx : x < css.length := (List.getElem?_eq_some_iff.1 hu).1
                  rw [Addr.add_lit, Nat.zero_add, hrows.cellAt x (by rw [← hrows.1]; exact hx)]; exact hu
                have HCL : Hid (css.length = (stepsL q d).length * 1) := hrows.1
                have HC1 : Hid (∀ u ∈ css, u.oneCell' = true) := hpvs.slices
                have hz8 : ws.heap.size ≤ w8.heap.size := HB8.out.size
                generalize hst : stepsL q d = st at *
                have hst2 := Lib.hid hst
                clear hrows hpvs hpl8 hb8 HPV0 HROW0 hst
                go_wp2_with (at_builtin; (refine wpList_append_own_at _ rfl _ _ 94 rfl ws.heap.size 24 i0 (.slice none 0 0) 1 24 Tryz.underlying94 hi hz0 hz1 hz2 rfl (by decide) _ _ _ rfl HROW.out ⟨gs, 0, none⟩ st.length cs8 css rfl HCL.out HNW.out HC1.out (by have := HOL.out; have := HSLN.out; unfold maxLen; omega) (by have := HOL.out; have := HSLN.out; omega) hz8 ?_); intro v' w9 hown hgrow _ hat)
                have HO2 : Hid (OP T w9 ws.heap.size 24 v' ((row.take k).flatMap (adv d) ++ st)) := OP.grew HPV.out HPE.out hown rfl hgrow hat HTW.out
                have HB9 : Hid (Below ws.heap.size ws w9) := HB8.out.grown hgrow hz8 (fun x hx => (HVL.out x hx).1)
                clear hown hgrow hat HROW HPV HPE
                go_wp2_with (fail)
                go_roundw
                case rel => exact ⟨k + 1, by omega, by go_num, ⟨_, rfl, by rw [HFT.out, HAD.out]; exact HO2.out⟩, HB9.out⟩
                case measure => (simp [intOf]) <;> omega
            · have hke : k = nr := by omega
              have HNE : Hid (OP T wt ws.heap.size 24 vn (row.flatMap (adv d))) := by
                have h := HON.out
                rwa [hke, List.take_of_length_le (by rw [HRN.out]; exact Nat.le_refl _)] at h
              have HFP : Hid (∀ x ∈ row.flatMap (adv d), PosP n 15 x) := fun x hx => by
                obtain ⟨y, hy, hx⟩ := List.mem_flatMap.1 hx
                exact adv_pos hde1 (HRP.out y hy) hx
              have HFN : Hid (row.flatMap (adv d) ≠ []) := fun e0 => by
                obtain ⟨y, hy⟩ := List.exists_mem_of_ne_nil _ HRSOME.out
                have h1 : adv d y ≠ [] := by
                  unfold adv
                  split
                  · simp
                  · exact steps_some (HRP.out y hy).2.1 ‹_›
                obtain ⟨z, hz⟩ := List.exists_mem_of_ne_nil _ h1
                have : z ∈ row.flatMap (adv d) := List.mem_flatMap.2 ⟨y, hy, hz⟩
                rw [e0] at this; simp at this
              have HFL : Hid ((row.flatMap (adv d)).length ≤ 331776) := by
                unfold Hid
                have := flat_len (row := row) (d := d) fun q hq => adv_len (HRP.out q hq) hn
                have := HRN.out
                omega
              have SRT : Hid (Calls Tryz.prog 181 #[vn] wt (RetSP T wt ws.heap.size vn (row.flatMap (adv d)))) :=
                sortedPositions_any T ws.heap.size _ n vn _ wt HNE.out (by have := HFL.out; omega) rfl (List.length_pos_iff.2 HFN.out) (fun x hx => ⟨(HFP.out x hx).1, pos_bd (HFP.out x hx) (by omega)⟩) (by omega)
              have HVL := Lib.hid HON.out.lt
              clear HON
              go_wp2_with (fail)
              refine SRT.out.mono ?_
              rintro e w8 ⟨v8, rfl, ho8, _, hg8⟩
              have HSS8 : Hid (sortU (row.flatMap (adv d)) ≠ []) := fun e0 => by
                have hs := sortU_spec (n := n) (l := row.flatMap (adv d)) fun x hx => (HFP.out x hx).1
                obtain ⟨y, hy⟩ := List.exists_mem_of_ne_nil _ HFN.out
                have := (hs.2.2 y).2 hy
                rw [e0] at this; simp at this
              obtain ⟨g8, c8, rfl, hpl8, hc8, _⟩ := ho8.slice HSS8.out
              have HPL8 : Hid (PL T w8 (some ⟨g8, 0, none⟩) (sortU (row.flatMap (adv d))).length (rowL (dl.take (j + 1)) [p])) := by
                unfold Hid
                rw [HTJ.out, HRNX.out]; exact hpl8
              have HB8 : Hid (Below V.heap.size V w8) := HBs.out.trans ((HBt.out.grown hg8 HBt.out.size (fun x hx => (HVL.out x hx).1)).mono HBs.out.size)
              clear ho8 hg8 hpl8
              generalize (sortU (row.flatMap (adv d))).length = n8 at *
              go_wp2_with (fail)
              go_roundw
              case rel => exact ⟨j + 1, g8, 0, n8, c8, by omega, by go_num, rfl, hc8, HPL8.out, HB8.out⟩
              case measure => (simp [intOf]) <;> omega
        · have hje : j = mo := by omega
          have HRE : Hid (PL T ws (some ⟨br, or', none⟩) nr (rowL dl [p])) := by
            have h := HRow.out
            rwa [List.take_of_length_le (by have := HMD.out; omega)] at h
          have HRP := Lib.hid (rowL_all HD1.out HP.out)
          have HRL : Hid ((rowL dl [p]).length ≤ 331776) := Nat.le_trans (rowL_len hn HD1.out HP.out) (pow4 HD2.out)
          have HVV : Hid (OP S ws w1.heap.size 24 vx (rowsF p (D.take i))) := (HO.out.below HB2.out).below HBs.out
          have HVL : Hid (rowsF p (D.take i) = rowsF p (D.take i) ∧ (rowsF p (D.take i)).length ≤ 663552) := by
            refine ⟨rfl, ?_⟩
            have h1 := rowsF_len hn HP.out (l := D.take i) fun ds hds => ⟨(HDP.out ds (List.mem_of_mem_take hds)).1, HDL.out.2 ds (List.mem_of_mem_take hds)⟩
            have h2 : (D.take i).length ≤ 2 := by rw [List.length_take]; have := HDL.out.1; omega
            omega
          have HRF := Lib.hid (rowsF_snoc p (D.take i) dl)
          have HB7 : Hid (Below w1.heap.size w1 ws) := (HBr.out.trans (HB2.out.mono HBr.out.size)).trans (HBs.out.mono (Nat.le_trans HBr.out.size HB2.out.size))
          have hz7 : w1.heap.size ≤ ws.heap.size := HB7.out.size
          have HNR : Hid ((rowL dl [p]).length = nr) := HRE.out.len
          obtain ⟨csr, hcz, hpvr⟩ := HRE.out
          have HNW : Hid (∀ x u, csr[x]? = some u → ws.cell? ((⟨br, or', none⟩ : Addr).add x) = some u) := fun x u hu => by
            have h := hcz.news (Below.refl _ _) 0 csr.length x u
            rw [List.drop_zero, List.take_length] at h
            exact h hu
          have HCL : Hid (csr.length = nr * 1) := hcz.1
          have HC1 : Hid (∀ u ∈ csr, u.oneCell' = true) := hpvr.slices
          have HPE : Hid (PVs (wth S vx) ws csr (rowL dl [p])) := by rw [← HTT.out]; exact hpvr
          obtain ⟨csx, hrowx, hpvx, _⟩ := HVV.out
          have HROW := Lib.hid hrowx
          have HPV := Lib.hid hpvx
          have HXL := Lib.hid HVV.out.lt
          have hnr6 : nr ≤ 331776 := by rw [← HNR.out]; exact HRL.out
          generalize rowsF p (D.take i) = acc at *
          generalize rowL dl [p] = row at *
          clear hcz hpvr hrowx hpvx
          go_wp2_with (at_builtin; (refine wpList_append_own_at _ rfl _ _ 94 rfl w1.heap.size 24 i0 (.slice none 0 0) 1 24 Tryz.underlying94 hi hz0 hz1 hz2 rfl (by decide) _ _ _ rfl HROW.out ⟨br, or', none⟩ nr cr csr rfl HCL.out HNW.out HC1.out (by have := HVL.out.2; unfold maxLen; omega) (by have := HVL.out.2; omega) hz7 ?_); intro v' w9 hown hgrow _ hat)
          have HO2 : Hid (OP S w9 w1.heap.size 24 v' (acc ++ row)) := OP.grew HPV.out HPE.out hown HNR.out.symm hgrow hat (fun x hx => HSS.out x (Nat.le_trans HB1.out.size hx))
          have HB9 : Hid (Below w1.heap.size w1 w9) := HB7.out.grown hgrow hz7 (fun x hx => (HXL.out x hx).1)
          clear hown hgrow hat HROW HPV HPE
          go_wp2_with (fail)
          go_roundw
          case rel => exact ⟨i + 1, by omega, by go_num, ⟨_, rfl, by rw [HTK.out, HRF.out]; exact HO2.out⟩, HB9.out⟩
          case measure => (simp [intOf]) <;> omega
    · have hie : i = no := by omega
      have HOE : Hid (OP S wa w1.heap.size 24 vx (rowsF p D)) := by
        have h := HO.out
        rwa [List.take_of_length_le (by have := HNO.out; omega)] at h
      have HFL : Hid ((rowsF p D).length ≤ 663552) := by
        have h1 := rowsF_len hn HP.out (l := D) fun ds hds => ⟨(HDP.out ds hds).1, HDL.out.2 ds hds⟩
        have := HDL.out.1
        unfold Hid; omega
      have HFN : Hid (rowsF p D ≠ []) := fun e0 => by
        have h := HRES.out
        rw [e0] at h
        exact HRNE.out h.symm
      have HFP : Hid (∀ x ∈ rowsF p D, PosP n 15 x) := fun x hx => by
        obtain ⟨ds, hds, hx⟩ := List.mem_flatMap.1 hx
        exact rowL_all (HDP.out ds hds).1 HP.out x hx
      have SRT : Hid (Calls Tryz.prog 181 #[vx] wa (RetSP S wa w1.heap.size vx (rowsF p D))) :=
        sortedPositions_any S w1.heap.size _ n vx _ wa HOE.out (by have := HFL.out; omega) rfl (List.length_pos_iff.2 HFN.out) (fun x hx => ⟨(HFP.out x hx).1, pos_bd (HFP.out x hx) (by omega)⟩) (by omega)
      have HVL := Lib.hid HOE.out.lt
      clear HO HOE
      go_wp2_with (fail)
      refine SRT.out.mono ?_
      rintro e w8 ⟨v8, rfl, ho8, _, hg8⟩
      have HR : Hid (RetO1 S w (resultsL p a b) (.returned v8) w8) := by
        refine ⟨v8, rfl, ?_, HB1.out.trans ((HBr.out.grown hg8 HBr.out.size (fun x hx => (HVL.out x hx).1)).mono HB1.out.size)⟩
        rw [← HRES.out]
        exact ho8.mono HB1.out.size
      clear ho8 hg8
      go_wp2_with (fail)
      go_ret
      exact HR.out
end Go.Proofs.YtlbkfhdnhalpbaaGreat

/- Words for the program's race tables: what they hold, what keeps it. No statement is proved here; there are no conditions. -/
namespace Go.Proofs.YtlbkfhdnhalpbaaGreat
set_option linter.unusedVariables false
set_option linter.unusedSimpArgs false
open Go.RowKit Ps Ra Ex Go.Maps

/-! ### a frame that spares the blocks of S -/
structure FrS (S : Nat → Prop) (w wr : World) (L : List (List Value)) : Prop where
  f : Frm S w wr
  low : ∀ k, S k → k < w.heap.size
  z : w.heap.size + L.length ≤ wr.heap.size
  cell : ∀ i j v, frAt L i j = some v → wr.cell? ⟨w.heap.size + i, j, none⟩ = some v
  froz : ∀ i j v, frAt L i j = some v → wr.frozen? ⟨w.heap.size + i, j, none⟩ = false
section
variable {S : Nat → Prop} {w wr w2 : World} {L : List (List Value)}
theorem FrS.cellA (h : FrS S w wr L) {b : Nat} (i j : Nat) {v : Value} (hb : b = w.heap.size + i) (hv : frAt L i j = some v) : wr.cell? ⟨b, j, none⟩ = some v := by subst hb; exact h.cell i j v hv
theorem FrS.frozA (h : FrS S w wr L) {b : Nat} (i j : Nat) {v : Value} (hb : b = w.heap.size + i) (hv : frAt L i j = some v) : wr.frozen? ⟨b, j, none⟩ = false := by subst hb; exact h.froz i j v hv
theorem FrS.ltA (h : FrS S w wr L) {b : Nat} (i : Nat) (hb : b = w.heap.size + i) (hi : i < L.length) : b < wr.heap.size := by have := h.z; omega
theorem FrS.start (w : World) (low : ∀ k, S k → k < w.heap.size) : FrS S w w [] := ⟨Frm.refl _ _, low, Nat.le_refl _, fun i j v h => by simp [frAt] at h, fun i j v h => by simp [frAt] at h⟩
theorem FrS.of (h : Fr w wr L) (low : ∀ k, S k → k < w.heap.size) : FrS S w wr L := ⟨Frm.of_below' S h.b, low, h.z, h.cell, h.froz⟩
theorem frAt_lt {L : List (List Value)} {i j : Nat} {v : Value} (h : frAt L i j = some v) : i < L.length := by
  unfold frAt at h
  cases hL : L[i]? with
  | none => rw [hL] at h; cases h
  | some l => exact (List.getElem?_eq_some_iff.1 hL).1
theorem frm_froz {T : Nat → Prop} (hf : Frm T wr w2) {b j : Nat} (hb : b < wr.heap.size) (hn : ¬ T b) : w2.frozen? ⟨b, j, none⟩ = wr.frozen? ⟨b, j, none⟩ := by
  have e := hf.block b hb hn
  simp [World.frozen?, e]
theorem FrS.frm (h : FrS S w wr L) (hf : Frm S wr w2) : FrS S w w2 L := by
  have hs := h.f.size
  refine ⟨h.f.trans hf, h.low, Nat.le_trans h.z hf.size, fun i j v hv => hf.cell' (h.cell i j v hv) fun hs => ?_, fun i j v hv => ?_⟩
  · have := h.low _ hs; omega
  · rw [frm_froz hf (by have := h.z; have := frAt_lt hv; omega) fun hs => by have := h.low _ hs; omega]
    exact h.froz i j v hv
theorem FrS.below (h : FrS S w wr L) (hb : Below wr.heap.size wr w2) : FrS S w w2 L := h.frm (Frm.of_below' S hb)
theorem FrS.more (h : FrS S w wr L) (t : World) : FrS S w (more wr t) L := h.below (below_more wr t)
theorem FrS.alloc (h : FrS S w wr L) (o : Obj) : FrS S w (wr.alloc o) L := h.below ((Below.refl _ _).alloc (Nat.le_refl _) o)
theorem FrS.drew (h : FrS S w wr L) : FrS S w wr.drew L := ⟨h.f.drew, h.low, h.z, h.cell, h.froz⟩
theorem FrS.drewN (h : FrS S w wr L) (n : Nat) : FrS S w (wr.drewN n) L := ⟨h.f.drewN n, h.low, h.z, h.cell, h.froz⟩
/-- Other own blocks changed, behind those of L. -/
theorem FrS.out {O : Nat → Prop} (h : FrS S w wr L) (hf : Frm O wr w2) (hO : ∀ k, O k → w.heap.size + L.length ≤ k) : FrS S w w2 L := by
  refine ⟨?_, h.low, Nat.le_trans h.z hf.size, fun i j v hv => hf.cell' (h.cell i j v hv) fun hs => ?_, fun i j v hv => ?_⟩
  · exact ⟨hf.os.trans h.f.os, hf.tape.trans h.f.tape, hf.output.trans h.f.output, Nat.le_trans h.f.size hf.size, fun k hk hn => (hf.block k (Nat.lt_of_lt_of_le hk h.f.size) fun ho => by have := hO k ho; omega).trans (h.f.block k hk hn)⟩
  · have := hO _ hs; have := frAt_lt hv; omega
  · rw [frm_froz hf (by have := h.z; have := frAt_lt hv; omega) fun hs => by have := hO _ hs; have := frAt_lt hv; omega]
    exact h.froz i j v hv
/-- A store into one of the blocks of L. -/
theorem FrS.set (h : FrS S w wr L) {b : Nat} (i j : Nat) (hb : b = w.heap.size + i) {u : Value} (hu : frAt L i j = some u) (v : Value) : FrS S w (wr.setCell ⟨b, j, none⟩ v) (L.modify i (·.set j v)) := by
  subst hb
  have hc := h.cell i j u hu
  have hi := frAt_lt hu
  have hf := Frm.set wr (w.heap.size + i) j v
  refine ⟨⟨hf.os.trans h.f.os, hf.tape.trans h.f.tape, hf.output.trans h.f.output, Nat.le_trans h.f.size hf.size, fun k hk hn => (hf.block k (Nat.lt_of_lt_of_le hk h.f.size) (by omega)).trans (h.f.block k hk hn)⟩, h.low, by simp; exact h.z, fun i' j' v' hv => ?_, fun i' j' v' hv => ?_⟩
  · by_cases hi : i' = i
    · subst hi
      cases hL : L[i']? with
      | none => simp [frAt, hL] at hu
      | some l =>
        simp [frAt, hL] at hv hu
        by_cases hj : j' = j
        · subst hj
          rw [List.getElem?_set_self (List.getElem?_eq_some_iff.1 hu).1] at hv
          injection hv with hv
          subst hv
          simp [go_sem, hc]
        · rw [List.getElem?_set_ne (by omega)] at hv
          have := h.cell i' j' v' (by simp [frAt, hL, hv])
          have hne : ¬ j' = j := hj
          simp [go_sem, this, hne, Ne.symm hne]
    · have : frAt L i' j' = some v' := by
        unfold frAt at hv ⊢
        rw [List.getElem?_modify] at hv
        simp [Ne.symm hi] at hv
        exact hv
      have := h.cell i' j' v' this
      have hne : ¬ w.heap.size + i' = w.heap.size + i := by omega
      have hne2 : ¬ w.heap.size + i = w.heap.size + i' := by omega
      simp [go_sem, this, hne, hne2]
      try omega
  · have : ∃ u', frAt L i' j' = some u' := by
      unfold frAt at hv ⊢
      rw [List.getElem?_modify] at hv
      cases hL : L[i']? with
      | none => simp [hL] at hv
      | some l =>
        by_cases hi : i = i'
        · simp [hL, hi] at hv
          have : j' < l.length := by have := (List.getElem?_eq_some_iff.1 hv).1; simpa using this
          exact ⟨l[j'], by simp [this]⟩
        · simp [hL, hi] at hv
          exact ⟨v', by simpa using hv⟩
    obtain ⟨u', hu'⟩ := this
    have := h.froz i' j' u' hu'
    simp [go_sem, this]
/-- The next block. -/
theorem FrS.allocT (h : FrS S w wr L) (hz : wr.heap.size = w.heap.size + L.length) (cs : Array Value) (T : TypeId) : FrS S w (wr.alloc (.cells cs T)) (L ++ [cs.toList]) := by
  have ha := h.alloc (.cells cs T)
  have new : ∀ i j v, frAt (L ++ [cs.toList]) i j = some v → ¬ i < L.length → i = L.length ∧ cs[j]? = some v := fun i j v hv hi => by
    unfold frAt at hv
    rw [List.getElem?_append_right (by omega)] at hv
    have : i - L.length = 0 := by
      rcases Nat.eq_zero_or_pos (i - L.length) with h' | h'
      · exact h'
      · rw [List.getElem?_eq_none (by simp; omega)] at hv; cases hv
    rw [this] at hv
    simp at hv
    exact ⟨by omega, by simpa using hv⟩
  refine ⟨ha.f, h.low, by simp; omega, fun i j v hv => ?_, fun i j v hv => ?_⟩
  · by_cases hi : i < L.length
    · exact ha.cell i j v (frAt_app_lt hv hi)
    · obtain ⟨rfl, hc⟩ := new i j v hv hi
      rw [← hz]; simp [go_sem, hc]
  · by_cases hi : i < L.length
    · exact ha.froz i j v (frAt_app_lt hv hi)
    · obtain ⟨rfl, hc⟩ := new i j v hv hi
      rw [← hz]; simp [go_sem]
end

/-! ### lists of lists of positions -/
def RS (T : Nat → Prop) (w : World) (A : Option Addr) (n : Nat) (ls : List (List (List Int))) : Prop :=
  ls.length = n ∧ (0 < n → ∃ b off, A = some ⟨b, off, none⟩ ∧ b < w.heap.size ∧ ¬ T b ∧ ∀ k, k < n → ∃ B m c, w.cell? ⟨b, off + k, none⟩ = some (.slice B m c) ∧ PL T w B m (ls.getD k []) ∧ m ≤ c)
def RSV (T : Nat → Prop) (w : World) (u : Value) (ls : List (List (List Int))) : Prop := ∃ A n c, u = .slice A n c ∧ RS T w A n ls ∧ n ≤ c
section
variable {T T' O : Nat → Prop} {w w' : World} {A : Option Addr} {n : Nat} {u : Value} {ls : List (List (List Int))}
theorem RS.frm (h : RS T w A n ls) (hf : Frm O w w') (hO : ∀ k, O k → T k) : RS T w' A n ls := by
  refine ⟨h.1, fun hn => ?_⟩
  obtain ⟨b, off, hA, hlt, hs, hc⟩ := h.2 hn
  refine ⟨b, off, hA, Nat.lt_of_lt_of_le hlt hf.size, hs, fun k hk => ?_⟩
  obtain ⟨B, m, c, h1, h2, h3⟩ := hc k hk
  exact ⟨B, m, c, hf.cell' h1 (fun ho => hs (hO b ho)), h2.frm (hf.mono hO), h3⟩
theorem RS.set (h : RS T w A n ls) (hS : ∀ k, T' k → T k ∨ w.heap.size ≤ k) : RS T' w A n ls := by
  refine ⟨h.1, fun hn => ?_⟩
  obtain ⟨b, off, hA, hlt, hs, hc⟩ := h.2 hn
  refine ⟨b, off, hA, hlt, fun hb => by rcases hS b hb with h | h; exact hs h; omega, fun k hk => ?_⟩
  obtain ⟨B, m, c, h1, h2, h3⟩ := hc k hk
  exact ⟨B, m, c, h1, h2.set hS, h3⟩
theorem RSV.frm (h : RSV T w u ls) (hf : Frm O w w') (hO : ∀ k, O k → T k) : RSV T w' u ls := let ⟨A, n, c, h1, h2, h3⟩ := h; ⟨A, n, c, h1, h2.frm hf hO, h3⟩
theorem RSV.set (h : RSV T w u ls) (hS : ∀ k, T' k → T k ∨ w.heap.size ≤ k) : RSV T' w u ls := let ⟨A, n, c, h1, h2, h3⟩ := h; ⟨A, n, c, h1, h2.set hS, h3⟩
end

/-! ### the table -/
structure RT where
  p : Int
  c : Nat
  h : Nat
  s : Nat
  bt : Nat
  b1 : Nat
  b2 : Nat
  b3 : Nat
  A : Option Addr
  nr : Nat
  cr : Nat
def RT.S (t : RT) : Nat → Prop := fun k => k = t.b1 ∨ k = t.b2 ∨ k = t.b3
def RT.N (t : RT) : Nat := wys t.h t.c
def RT.cells (t : RT) : List Value := [.int .i64 t.p, .int .i64 t.c, .int .i64 t.h, .int .i64 t.s, .int .i64 t.N, .slice t.A t.nr t.cr, .map (some t.b1), .map (some t.b2), .map (some t.b3)]
structure RT.Ok (t : RT) : Prop where
  v : isVar t.p t.c t.h t.s = true
  n : t.N ≤ 500
  r : (rollsN t.s).length = t.nr
  c : t.nr ≤ t.cr
def keysU (N : Nat) : List Lit := (List.range (N * N)).map fun (i : Nat) => Lit.int .i64 (i : Int)
def RT.k1 (t : RT) (q : List Int) : Lit := .int .i64 (num t.c q : Int)
def RT.k2 (t : RT) (q r : List Int) : Lit := .int .i64 ((num t.c q * t.N + num t.c r : Nat) : Int)
def exV (o : Option E) : Value := .agg #[.int .i64 (o.getD ⟨0, 0⟩).num, .int .i64 ((o.getD ⟨0, 0⟩).depth : Int)]
noncomputable def rsl (s : Nat) (q : List Int) : List (List (List Int)) := (rollsN s).map fun r => resultsL q r.1 r.2
/-- What the maps hold. -/
def RaceM (t : RT) (T : Nat → Prop) (w : World) (f1 f2 f3 : Lit → Option Value) : Prop :=
  MapV Tryz.prog 2 w t.b1 (keysU t.N) f1 ∧ MapV Tryz.prog 2 w t.b2 (keysU t.N) f2 ∧ MapV Tryz.prog 2 w t.b3 (keysU t.N) f3 ∧
  (∀ q, PosP t.h t.c q → ∀ u, f1 (t.k1 q) = some u → RSV T w u (rsl t.s q)) ∧
  (∀ q r, PosP t.h t.c q → PosP t.h t.c r → ∀ u, f2 (t.k2 q r) = some u → u = exV (win t.s q r) ∧ f3 (t.k2 q r) = some (.bool (win t.s q r).isNone))
structure RaceI (t : RT) (T : Nat → Prop) (w : World) : Prop where
  tb : ∀ j v, t.cells[j]? = some v → w.cell? ⟨t.bt, j, none⟩ = some v
  nt : ¬ T t.bt
  rl : RL T w t.A t.nr (rollsN t.s)
  sub : ∀ k, t.S k → T k
  d12 : t.b1 ≠ t.b2
  d13 : t.b1 ≠ t.b3
  d23 : t.b2 ≠ t.b3
  maps : ∃ f1 f2 f3, RaceM t T w f1 f2 f3
section
variable {t : RT} {T T' O : Nat → Prop} {w w' : World} {f1 f2 f3 : Lit → Option Value}
theorem RL.set {S S' : Nat → Prop} {w : World} {A : Option Addr} {n : Nat} {rs : List (Nat × Nat)} (h : RL S w A n rs) (hS : ∀ k, S' k → S k ∨ w.heap.size ≤ k) : RL S' w A n rs := by
  refine ⟨h.1, h.2.1, fun hn => ?_⟩
  obtain ⟨b, off, hA, hlt, hs, hc⟩ := h.2.2 hn
  exact ⟨b, off, hA, hlt, fun hb => by rcases hS b hb with h | h; exact hs h; omega, hc⟩
theorem RaceM.frm (h : RaceM t T w f1 f2 f3) (hf : Frm O w w') (hO : ∀ k, O k → T k) (hn : ∀ k, O k → ¬ t.S k) : RaceM t T w' f1 f2 f3 := by
  obtain ⟨h1, h2, h3, h4, h5⟩ := h
  exact ⟨h1.frm hf fun h => hn _ h (.inl rfl), h2.frm hf fun h => hn _ h (.inr (.inl rfl)), h3.frm hf fun h => hn _ h (.inr (.inr rfl)), fun q hq u hu => (h4 q hq u hu).frm hf hO, h5⟩
/-- Blocks of T other than the maps may change. -/
theorem RaceI.own (h : RaceI t T w) (hf : Frm O w w') (hO : ∀ k, O k → T k) (hn : ∀ k, O k → ¬ t.S k) : RaceI t T w' :=
  let ⟨f1, f2, f3, hm⟩ := h.maps
  ⟨fun j v hv => hf.cell' (h.tb j v hv) fun ho => h.nt (hO _ ho), h.nt, h.rl.frm (hf.mono hO), h.sub, h.d12, h.d13, h.d23, f1, f2, f3, hm.frm hf hO hn⟩
theorem RaceI.below (h : RaceI t T w) (hb : Below w.heap.size w w') : RaceI t T w' := h.own (Frm.of_below hb) (fun _ h => h.elim) (fun _ h => h.elim)
theorem RaceI.alloc (h : RaceI t T w) (o : Obj) : RaceI t T (w.alloc o) := h.below ((Below.refl _ _).alloc (Nat.le_refl _) o)
theorem RaceI.drewN (h : RaceI t T w) (k : Nat) : RaceI t T (w.drewN k) := h.below (below_drewN' (Below.refl _ _) k)
theorem RaceI.drew (h : RaceI t T w) : RaceI t T w.drew := h.below (drw (Below.refl _ _))
theorem RaceI.ltB (h : RaceI t T w) : t.bt < w.heap.size := World.block_lt_of_cell? w _ (h.tb 0 _ rfl)
theorem RaceI.ltS (h : RaceI t T w) : ∀ k, t.S k → k < w.heap.size := by
  obtain ⟨_, _, _, h1, h2, h3, _⟩ := h.maps
  rintro k (rfl | rfl | rfl)
  · exact h1.lt
  · exact h2.lt
  · exact h3.lt
theorem RaceI.set (h : RaceI t T w) (hS : ∀ k, T' k → T k ∨ w.heap.size ≤ k) (hs : ∀ k, t.S k → T' k) : RaceI t T' w := by
  obtain ⟨f1, f2, f3, h1, h2, h3, h4, h5⟩ := h.maps
  exact ⟨h.tb, fun hb => by rcases hS _ hb with h' | h'; exact h.nt h'; have := h.ltB; omega, h.rl.set hS, hs, h.d12, h.d13, h.d23, f1, f2, f3, h1, h2, h3, fun q hq u hu => (h4 q hq u hu).set hS, h5⟩
theorem RaceI.less (h : RaceI t T w) (hS : ∀ k, T' k → T k) (hs : ∀ k, t.S k → T' k) : RaceI t T' w := h.set (fun k hk => .inl (hS k hk)) hs
end
/-- T and the blocks of w's own call, m of them. -/
def ownT (T : Nat → Prop) (w : World) (m : Nat) : Nat → Prop := fun k => T k ∨ (w.heap.size ≤ k ∧ k < w.heap.size + m)
/-- A call with a race table hands back an exact number, if there is one. -/
def RetWn (t : RT) (T : Nat → Prop) (w : World) (o : Option E) (e : Ending) (w' : World) : Prop := e = .returned (.tuple #[exV o, .bool o.isSome]) ∧ RaceI t T w' ∧ Frm t.S w w'
theorem RetWn.mkY {t : RT} {T : Nat → Prop} {w w' : World} {o : Option E} {m : Int} {d : Nat} (ho : o = some ⟨m, d⟩) (h1 : RaceI t T w') (h2 : Frm t.S w w') : RetWn t T w o (.returned (.tuple #[.agg #[.int .i64 m, .int .i64 (d : Int)], .bool true])) w' := by subst ho; exact ⟨rfl, h1, h2⟩
theorem RetWn.mkN {t : RT} {T : Nat → Prop} {w w' : World} {o : Option E} (ho : o = none) (h1 : RaceI t T w') (h2 : Frm t.S w w') : RetWn t T w o (.returned (.tuple #[.agg #[.int .i64 0, .int .i64 0], .bool false])) w' := by subst ho; exact ⟨rfl, h1, h2⟩
theorem keyI : Keyed Tryz.prog 2 := int_keyed Tryz.underlying2
theorem key_wf {k : Nat} (h : k ≤ 1000000) : keyOf Tryz.prog 2 (.int .i64 (k : Int)) = some (.int .i64 (k : Int)) := keyOf_int_mk Tryz.underlying2 (WalkArith.wf_i64 (by omega))
theorem mem_keysU {N k : Nat} (h : k < N * N) : Lit.int .i64 (k : Int) ∈ keysU N := by
  unfold keysU
  exact List.mem_map.2 ⟨k, List.mem_range.2 h, rfl⟩
theorem keysU_len {N : Nat} (h : N ≤ 500) : (keysU N).length < maxLen := by
  unfold keysU maxLen
  have : N * N ≤ 500 * 500 := Nat.mul_le_mul h h
  simp; omega
theorem k2_inj {t : RT} {q r q' r' : List Int} (hq : PosP t.h t.c q) (hr : PosP t.h t.c r) (hq' : PosP t.h t.c q') (hr' : PosP t.h t.c r') (h : t.k2 q r = t.k2 q' r') : q = q' ∧ r = r' := by
  unfold RT.k2 at h
  injection h with _ h
  have h' : num t.c q * t.N + num t.c r = num t.c q' * t.N + num t.c r' := by omega
  obtain ⟨h1, h2⟩ := pair_inj (num_lt hr) (num_lt hr') h'
  exact ⟨num_inj hq hq' h1, num_inj hr hr' h2⟩
theorem k1_inj {t : RT} {q q' : List Int} (hq : PosP t.h t.c q) (hq' : PosP t.h t.c q') (h : t.k1 q = t.k1 q') : q = q' := by
  unfold RT.k1 at h
  injection h with _ h
  exact num_inj hq hq' (by omega)
end Go.Proofs.YtlbkfhdnhalpbaaGreat

/- Contract of a new race table, the program's. There are no conditions. -/
namespace Go.Proofs.YtlbkfhdnhalpbaaGreat
set_option linter.unusedVariables false
set_option linter.unusedSimpArgs false
open Go.RowKit Ps Ra Ex Go.Maps

theorem mapV_empty (P : Program) (k : TypeId) {w : World} {b : Nat} (U : List Lit) (hb : w.heap[b]? = some (Obj.map #[] 0)) : MapV P k w b U (fun _ => none) := by
  refine ⟨.map [], ⟨#[], 0, hb, ⟨by simp, Go.MapKept.stamped_empty 0, by simp⟩, Nat.zero_le _, rfl⟩, fun l hl => ⟨rfl, fun z => rfl⟩, fun l h => by simp [has] at h⟩
def RetNew (w : World) (p : Int) (c h s : Nat) (e : Ending) (w' : World) : Prop :=
  ∃ t : RT, t.p = p ∧ t.c = c ∧ t.h = h ∧ t.s = s ∧ e = .returned (.pointer (some ⟨t.bt, 0, none⟩)) ∧ t.Ok ∧ RaceI t t.S w' ∧ (∀ k, t.S k → w.heap.size ≤ k) ∧ w.heap.size ≤ t.bt ∧ Below w.heap.size w w'
/-- What is known of what the head's operations give. -/
def newG (w : World) (p : Int) (c h s N : Nat) (i : Nat) (v : Value) (W : World) : Prop :=
  match i with
  | 2 => v = .int .i64 (N : Int)
  | 4 => OwnR W w.heap.size v (rollsN s)
  | 5 => ∃ b, v = .map (some b) ∧ w.heap.size ≤ b ∧ W.heap[b]? = some (.map #[] 0)
  | 6 => ∃ b, v = .map (some b) ∧ w.heap.size ≤ b ∧ W.heap[b]? = some (.map #[] 0)
  | 7 => ∃ b, v = .map (some b) ∧ w.heap.size ≤ b ∧ W.heap[b]? = some (.map #[] 0)
  | _ => v = .agg #[.int .i64 p, .int .i64 c, .int .i64 h, .int .i64 s]
def mapB : Value → Option Nat
  | .map (some b) => some b
  | _ => none
def newO (i : Nat) (v : Value) : Option Nat := if 5 ≤ i then mapB v else none
theorem newG_stab {w : World} {p : Int} {c h s N : Nat} (i : Nat) (v : Value) (W W' : World) (hg : newG w p c h s N i v W) (hb : Below W.heap.size W W') : newG w p c h s N i v W' := by
  have key : ∀ b : Nat, W.heap[b]? = some (Obj.map #[] 0) → W'.heap[b]? = some (Obj.map #[] 0) := fun b h => (hb.block b (Array.getElem?_eq_some_iff.1 h).1).trans h
  unfold newG at *
  split at hg <;> first | exact hg | exact own_below hg hb | (obtain ⟨b, h1, h2, h3⟩ := hg; exact ⟨b, h1, h2, key b h3⟩)
theorem newG_lt {w : World} {p : Int} {c h s N : Nat} (i : Nat) (v : Value) (W : World) (b : Nat) (hg : newG w p c h s N i v W) (ho : newO i v = some b) : b < W.heap.size := by
  unfold newO at ho
  split at ho
  · rename_i h5
    unfold newG at hg
    split at hg <;> first | omega | (obtain ⟨b', rfl, _, h3⟩ := hg; simp [mapB] at ho; subst ho; exact (Array.getElem?_eq_some_iff.1 h3).1) | (subst hg; simp [mapB] at ho)
  · cases ho

set_option maxRecDepth 100000 in
set_option maxHeartbeats 2000000 in
theorem newRace_any (p : Int) (c h s : Nat) (w : World) (hv : isVar p c h s = true) (hN : wys h c ≤ 500) :
    Calls Tryz.prog 66 #[.agg #[.int .i64 p, .int .i64 c, .int .i64 h, .int .i64 s]] w (RetNew w p c h s) := by
  have hvv := isVar_yes hv
  have hs6 : s ≤ 6 := by omega
  have HV := Lib.hid hv
  have HN := Lib.hid hN
  have HC : Hid (wysC h c = wys h c) := wysC_ok (by omega)
  have HF0 := Lib.hid ((Fr.start w).allocT (by simp) #[.int .i64 p, .int .i64 c, .int .i64 h, .int .i64 s] 29)
  have CN := Lib.hid fun (W : World) => BearoffCount_any p s c h W hv
  have CR := Lib.hid fun (W : World) => AllRolls_any p c h s W hv
  clear hv hN hvv
  go_enter Tryz.func66, Tryz.ntmps66
  go_wp2_with (fail)
  refine wp_region_makes 8 (fun i => i + 3) (newG w p c h s (wys h c)) newO (by kernel_rfl) (by kernel_rfl) newG_stab newG_lt ?_ ?_
  · intro i o hi ho a' W hb hfar hdep
    have e1 : a'.tmps.getD 1 undef = .pointer (some ⟨w.heap.size, 0, none⟩) := (hfar 1 (fun j _ => by omega)).trans rfl
    have HFW := HF0.out.below hb
    have hWz : w.heap.size ≤ W.heap.size := HFW.b.size
    have HFh := Lib.hid HFW
    have z0 : w.heap.size < W.heap.size := HFh.out.ltA 0 rfl (by simp)
    have c00 := HFh.out.cellA (b := w.heap.size) 0 0 rfl rfl
    have f00 := HFh.out.frozA (b := w.heap.size) 0 0 rfl rfl
    have c01 := HFh.out.cellA (b := w.heap.size) 0 1 rfl rfl
    have f01 := HFh.out.frozA (b := w.heap.size) 0 1 rfl rfl
    have c02 := HFh.out.cellA (b := w.heap.size) 0 2 rfl rfl
    have f02 := HFh.out.frozA (b := w.heap.size) 0 2 rfl rfl
    have c03 := HFh.out.cellA (b := w.heap.size) 0 3 rfl rfl
    have f03 := HFh.out.frozA (b := w.heap.size) 0 3 rfl rfl
    have dep : ∀ j, j < 8 → Region.waitsFor .any _ i j = true → newG w p c h s (wys h c) j (a'.tmps.getD (j + 3) undef) W := hdep
    have good : ∀ (v : Value) (W' : World), Below W.heap.size W W' → newG w p c h s (wys h c) i v W' → (∀ b, newO i v = some b → W.heap.size ≤ b) → MGood (newG w p c h s (wys h c)) newO i W v W' := fun v W' h1 h2 h3 => ⟨h1, h2, h3⟩
    have load : ∀ (d : Option Tmp) (ty : TypeId) (pos : String) (af : Array Edge), (execOp a'.eval { dst := d, op := Op.load 29 (Operand.tmp 1), type := ty, pos := pos, after := af, guard := none }).run Tryz.prog W = .ok (.value (.agg #[.int .i64 p, .int .i64 c, .int .i64 h, .int .i64 s])) W := fun d ty pos af => by
      simp only [execOp, Act.eval, e1]
      go_simp
    have hi8 : i = 0 ∨ i = 1 ∨ i = 2 ∨ i = 3 ∨ i = 4 ∨ i = 5 ∨ i = 6 ∨ i = 7 := by omega
    rcases hi8 with rfl | rfl | rfl | rfl | rfl | rfl | rfl | rfl
    all_goals
      simp at ho
      subst ho
    · exact .inl ⟨_, W, load _ _ _ _, good _ _ (Below.refl _ _) rfl (fun b hb => by simp [newO] at hb)⟩
    · exact .inl ⟨_, W, load _ _ _ _, good _ _ (Below.refl _ _) rfl (fun b hb => by simp [newO] at hb)⟩
    · have e4 : a'.tmps.getD 4 undef = .agg #[.int .i64 p, .int .i64 c, .int .i64 h, .int .i64 s] := dep 1 (by omega) (by kernel_rfl)
      refine .inr ⟨118, #[.agg #[.int .i64 p, .int .i64 c, .int .i64 h, .int .i64 s]], ?_, ?_⟩
      · simp only [execOp, Act.eval]
        go_simp
      · refine (CN.out W).mono ?_
        rintro e W' ⟨rfl, hb'⟩
        exact ⟨_, rfl, good _ _ hb' (by rw [HC.out]; rfl) (fun b hb => by simp [newO] at hb)⟩
    · exact .inl ⟨_, W, load _ _ _ _, good _ _ (Below.refl _ _) rfl (fun b hb => by simp [newO] at hb)⟩
    · have e6 : a'.tmps.getD 6 undef = .agg #[.int .i64 p, .int .i64 c, .int .i64 h, .int .i64 s] := dep 3 (by omega) (by kernel_rfl)
      refine .inr ⟨140, #[.agg #[.int .i64 p, .int .i64 c, .int .i64 h, .int .i64 s]], ?_, ?_⟩
      · simp only [execOp, Act.eval]
        go_simp
      · refine (CR.out W).mono ?_
        rintro e W' ⟨v, rfl, ho, hb'⟩
        exact ⟨_, rfl, good _ _ hb' (own_base ho hWz) (fun b hb => by simp [newO] at hb)⟩
    all_goals
      refine .inl ⟨.map (some W.heap.size), W.alloc (.map #[] 0), rfl, good _ _ ((Below.refl _ _).alloc (Nat.le_refl _) _) ⟨W.heap.size, rfl, hWz, heap_alloc_new W _⟩ (fun b hb => ?_)⟩
      simp [newO, mapB] at hb
      omega
  · intro v W hb hg ho
    have HBW : Below w.heap.size w W := ((Below.refl _ _).alloc (Nat.le_refl _) _).trans (hb.mono (by simp))
    have g0 : v 0 = .agg #[.int .i64 p, .int .i64 c, .int .i64 h, .int .i64 s] := hg 0 (by omega)
    have g1 : v 1 = .agg #[.int .i64 p, .int .i64 c, .int .i64 h, .int .i64 s] := hg 1 (by omega)
    have g2 : v 2 = .int .i64 (wys h c : Int) := hg 2 (by omega)
    have g3 : v 3 = .agg #[.int .i64 p, .int .i64 c, .int .i64 h, .int .i64 s] := hg 3 (by omega)
    have g4 : OwnR W w.heap.size (v 4) (rollsN s) := hg 4 (by omega)
    obtain ⟨b1, g5, l1, m1⟩ : ∃ b, v 5 = .map (some b) ∧ w.heap.size ≤ b ∧ W.heap[b]? = some (.map #[] 0) := hg 5 (by omega)
    obtain ⟨b2, g6, l2, m2⟩ : ∃ b, v 6 = .map (some b) ∧ w.heap.size ≤ b ∧ W.heap[b]? = some (.map #[] 0) := hg 6 (by omega)
    obtain ⟨b3, g7, l3, m3⟩ : ∃ b, v 7 = .map (some b) ∧ w.heap.size ≤ b ∧ W.heap[b]? = some (.map #[] 0) := hg 7 (by omega)
    have d12 : b1 ≠ b2 := fun e => ho 5 6 (by omega) (by omega) (by omega) b1 (by rw [g5]; rfl) (by rw [g6, e]; rfl)
    have d13 : b1 ≠ b3 := fun e => ho 5 7 (by omega) (by omega) (by omega) b1 (by rw [g5]; rfl) (by rw [g7, e]; rfl)
    have d23 : b2 ≠ b3 := fun e => ho 6 7 (by omega) (by omega) (by omega) b2 (by rw [g6]; rfl) (by rw [g7, e]; rfl)
    have hrb : ∀ k, (v 4).ownBlock = some k → ¬ (k = b1 ∨ k = b2 ∨ k = b3) := fun k hk hor => by
      obtain ⟨_, h4⟩ := g4
      rcases h4 with ⟨h4, _⟩ | ⟨g, cap, cur, h4, _, h5, _⟩
      · rw [h4] at hk; cases hk
      · rw [h4] at hk
        simp [Value.ownBlock] at hk
        subst hk
        rcases hor with rfl | rfl | rfl
        · rw [m1] at h5; cases h5
        · rw [m2] at h5; cases h5
        · rw [m3] at h5; cases h5
    obtain ⟨A, cr, hv4, hsl, hcr⟩ := row_read (S := fun k => k = b1 ∨ k = b2 ∨ k = b3) g4 hrb (by omega)
    have HR : Hid (∀ W', W' = W.alloc (.cells #[.int .i64 p, .int .i64 c, .int .i64 h, .int .i64 s, .int .i64 (wys h c : Int), .slice A (rollsN s).length cr, .map (some b1), .map (some b2), .map (some b3)] 149) → RetNew w p c h s (.returned (.pointer (some ⟨W.heap.size, 0, none⟩))) W') := fun W' hW' => by
      subst hW'
      have hz : w.heap.size ≤ W.heap.size := HBW.size
      refine ⟨⟨p, c, h, s, W.heap.size, b1, b2, b3, A, (rollsN s).length, cr⟩, rfl, rfl, rfl, rfl, rfl, ⟨HV.out, HN.out, rfl, hcr⟩, ?_, ?_, hz, HBW.alloc hz _⟩
      · have mk : ∀ b, W.heap[b]? = some (Obj.map #[] 0) → MapV Tryz.prog 2 (W.alloc (.cells #[.int .i64 p, .int .i64 c, .int .i64 h, .int .i64 s, .int .i64 (wys h c : Int), .slice A (rollsN s).length cr, .map (some b1), .map (some b2), .map (some b3)] 149)) b (keysU (wys h c)) (fun _ => none) := fun b hb => (mapV_empty Tryz.prog 2 (keysU (wys h c)) hb).alloc _
        have lt : ∀ b : Nat, W.heap[b]? = some (Obj.map #[] 0) → b < W.heap.size := fun b h => (Array.getElem?_eq_some_iff.1 h).1
        refine ⟨fun j v hj => ?_, ?_, ⟨rfl, hsl.alloc _⟩, fun k hk => hk, d12, d13, d23, _, _, _, mk b1 m1, mk b2 m2, mk b3 m3, (fun q _ u hu => by cases hu), (fun q r _ _ u hu => by cases hu)⟩
        · have : (#[.int .i64 p, .int .i64 c, .int .i64 h, .int .i64 s, .int .i64 (wys h c : Int), .slice A (rollsN s).length cr, .map (some b1), .map (some b2), .map (some b3)] : Array Value)[j]? = some v := by rw [← hj]; simp [RT.cells, RT.N]
          simp [go_sem, this]
        · rintro (h | h | h)
          · have := lt b1 m1; simp at h; omega
          · have := lt b2 m2; simp at h; omega
          · have := lt b3 m3; simp at h; omega
      · rintro k (rfl | rfl | rfl) <;> assumption
    clear hrb hsl g4 m1 m2 m3 hg ho hcr
    have d12 := Lib.hid d12
    have d13 := Lib.hid d13
    have d23 := Lib.hid d23
    simp only [List.drop_succ_cons, List.drop_zero, putV, g0, g1, g2, g3, hv4, g5, g6, g7, Act.put]
    clear g0 g1 g2 g3 hv4 g5 g6 g7
    go_wp2_with (fail)
    go_ret
    exact HR.out _ rfl
end Go.Proofs.YtlbkfhdnhalpbaaGreat

/- Contract of the results of all rolls out of the program's race table. There are no conditions. -/
namespace Go.Proofs.YtlbkfhdnhalpbaaGreat
set_option linter.unusedVariables false
set_option linter.unusedSimpArgs false
open Go.RowKit Ps Ra Ex Go.Maps

theorem Tryz.infoLL : (Tryz.prog.info? 94).map (fun i => (i.zero, i.size, i.bytes)) = some (some (.slice none 0 0), 1, 24) := by kernel_rfl
/-- A value that reads as a list of positions. -/
def PLV (T : Nat → Prop) (w : World) (u : Value) (ps : List (List Int)) : Prop := ∃ A n c, u = .slice A n c ∧ PL T w A n ps ∧ n ≤ c
def PLVs (T : Nat → Prop) (w : World) (cs : List Value) (ls : List (List (List Int))) : Prop := cs.length = ls.length ∧ ∀ i, i < cs.length → PLV T w (cs.getD i undef) (ls.getD i [])
/-- A slice of lists of positions, of the call's own. -/
def OR (T : Nat → Prop) (w : World) (base : Nat) (v : Value) (ls : List (List (List Int))) : Prop := ∃ cs, w.ownsRow base 94 1 v ls.length cs ∧ PLVs (wth T v) w cs ls ∧ ∀ k, v.ownBlock = some k → ¬ T k
section
variable {T T' O : Nat → Prop} {w w' : World} {u v : Value} {cs ds : List Value} {ps : List (List Int)} {ls ms : List (List (List Int))} {base : Nat}
theorem PLV.frm (h : PLV T w u ps) (hf : Frm T w w') : PLV T w' u ps := let ⟨A, n, c, h1, h2, h3⟩ := h; ⟨A, n, c, h1, h2.frm hf, h3⟩
theorem PLV.set (h : PLV T w u ps) (hS : ∀ k, T' k → T k ∨ w.heap.size ≤ k) : PLV T' w u ps := let ⟨A, n, c, h1, h2, h3⟩ := h; ⟨A, n, c, h1, h2.set hS, h3⟩
theorem PLVs.frm (h : PLVs T w cs ls) (hf : Frm T w w') : PLVs T w' cs ls := ⟨h.1, fun i hi => (h.2 i hi).frm hf⟩
theorem PLVs.set (h : PLVs T w cs ls) (hS : ∀ k, T' k → T k ∨ w.heap.size ≤ k) : PLVs T' w cs ls := ⟨h.1, fun i hi => (h.2 i hi).set hS⟩
theorem PLVs.nil_ (T : Nat → Prop) (w : World) : PLVs T w [] [] := ⟨rfl, fun i hi => absurd hi (by simp)⟩
theorem PLVs.one (h : PLV T w u ps) : PLVs T w [u] [ps] := ⟨rfl, fun i hi => by
  have : i = 0 := by simpa using hi
  subst this; exact h⟩
theorem PLVs.append (h : PLVs T w cs ls) (k : PLVs T w ds ms) : PLVs T w (cs ++ ds) (ls ++ ms) := by
  refine ⟨by simp [h.1, k.1], fun i hi => ?_⟩
  by_cases hlt : i < cs.length
  · have := h.2 i hlt
    rw [getD_app_lt _ _ _ hlt, getD_app_lt _ _ _ (by rw [← h.1]; exact hlt)]; exact this
  · rw [getD_app_ge _ _ _ (by omega), getD_app_ge _ _ _ (by rw [← h.1]; omega), h.1]
    have := k.2 (i - cs.length) (by simp at hi; omega)
    rwa [h.1] at this
theorem OR.frm (h : OR T w base v ls) (hf : Frm T w w') : OR T w' base v ls :=
  let ⟨cs, h1, h2, h3⟩ := h; ⟨cs, hf.row h1 h3, h2.frm (hf.mono fun k hk => .inl hk), h3⟩
theorem OR.below (h : OR T w base v ls) (hb : Below w.heap.size w w') : OR T w' base v ls := h.frm (Frm.of_below' T hb)
theorem OR.lt (h : OR T w base v ls) : ∀ k, v.ownBlock = some k → base ≤ k ∧ k < w.heap.size := let ⟨_, h1, _⟩ := h; World.ownsRow.lt h1
theorem OR.nil_ (T : Nat → Prop) (w : World) (base : Nat) : OR T w base (.slice none 0 0) [] := ⟨[], World.ownsRow_nil _ _ _ _, PLVs.nil_ _ _, fun k hk => by cases hk⟩
theorem OR.grew {w1 : World} {v' : Value} {m : Nat} (hp : PLVs (wth T v) w cs ls) (hq : PLVs (wth T v) w ds ms) (hown : w1.ownsRow base 94 1 v' (ls.length + m) (cs ++ ds)) (hm : m = ms.length)
    (hg : w.grownBy w1 v.ownBlock) (hat : v'.ownBlock = v.ownBlock ∨ v'.ownBlock = some w.heap.size) (hS : ∀ k, base ≤ k → ¬ T k) : OR T w1 base v' (ls ++ ms) := by
  subst hm
  refine ⟨cs ++ ds, by rw [List.length_append]; exact hown, ?_, fun k hk => hS k (World.ownsRow.lt hown k hk).1⟩
  have h1 := (hp.append hq).set (T' := fun k => wth T v k ∨ wth T v' k) fun k hk => hk.elim .inl (wth_new hat k)
  exact (h1.frm ((frm_own hg).mono fun k hk => .inl hk)).set fun k hk => .inl (.inr hk)
theorem OR.rsv (h : OR T w base v ls) : RSV T w v ls := by
  obtain ⟨cs, h1, h2, h3⟩ := h
  obtain ⟨A, c, hv, hs, hc⟩ := row_read h1 h3 (by omega)
  refine ⟨A, _, c, hv, ⟨rfl, fun hn => ?_⟩, hc⟩
  obtain ⟨b, off, hA, hlt, hb, hcell⟩ := hs.2 hn
  refine ⟨b, off, hA, hlt, hb, fun k hk => ?_⟩
  obtain ⟨B, m, c', hu, hpl, hm⟩ := h2.2 k (by rw [h2.1]; exact hk)
  exact ⟨B, m, c', by rw [hcell k (by omega), hu], hpl.set fun k hk => .inl (.inl hk), hm⟩
end
theorem rsl_take {s k : Nat} {q : List Int} (h : k < (rollsN s).length) : (rsl s q).take (k + 1) = (rsl s q).take k ++ [resultsL q ((rollsN s).getD k (0, 0)).1 ((rollsN s).getD k (0, 0)).2] := by
  unfold rsl
  rw [take_snoc_getD _ ([] : List (List Int)) (by simpa using h), getD_map _ _ (0, 0) _ h]
theorem rsl_len (s : Nat) (q : List Int) : (rsl s q).length = (rollsN s).length := by unfold rsl; simp

/-- The results of a position are stored. -/
theorem RaceM.put1 {t : RT} {T : Nat → Prop} {w w' : World} {f1 f2 f3 : Lit → Option Value} {q : List Int} {v : Value} (h : RaceM t T w f1 f2 f3) (hs : MapV Tryz.prog 2 w' t.b1 (keysU t.N) (putF f1 (t.k1 q) v)) (hg : w.grownBy w' (some t.b1))
    (hT : T t.b1) (d12 : t.b1 ≠ t.b2) (d13 : t.b1 ≠ t.b3) (hq : PosP t.h t.c q) (hv : RSV T w v (rsl t.s q)) : RaceM t T w' (putF f1 (t.k1 q) v) f2 f3 := by
  obtain ⟨h1, h2, h3, h4, h5⟩ := h
  have hf : Frm (fun k => k = t.b1) w w' := (Frm.of_grown hg).mono fun k hk => by injection hk
  have hO : ∀ k, k = t.b1 → T k := fun k hk => by rw [hk]; exact hT
  refine ⟨hs, h2.frm hf (Ne.symm d12), h3.frm hf (Ne.symm d13), fun q' hq' u hu => ?_, h5⟩
  by_cases e : t.k1 q' = t.k1 q
  · rw [e, putF_same] at hu
    injection hu with hu
    subst hu
    rw [k1_inj hq' hq e]
    exact hv.frm hf hO
  · rw [putF_other f1 e] at hu
    exact (h4 q' hq' u hu).frm hf hO
theorem frm_S {t : RT} {w w' : World} {b : Nat} (hg : w.grownBy w' (some b)) (hb : t.S b) : Frm t.S w w' := (Frm.of_grown hg).mono fun k hk => by injection hk with hk; rw [hk]; exact hb
/-- A call hands back the results of all rolls. -/
def RetRs (t : RT) (T : Nat → Prop) (w : World) (q : List Int) (e : Ending) (w' : World) : Prop := ∃ u, e = .returned u ∧ RSV T w' u (rsl t.s q) ∧ RaceI t T w' ∧ Frm t.S w w'

set_option maxRecDepth 100000 in
set_option maxHeartbeats 2000000 in
theorem resultsOf_any (t : RT) (ht : t.Ok) (T : Nat → Prop) (A : Option Addr) (ca : Nat) (q : List Int) (w : World) (hT : ∀ k, w.heap.size ≤ k → ¬ T k) (hI : RaceI t T w) (hx : SQ T w A t.h q) (hca : t.h ≤ ca) (hq : PosP t.h t.c q) :
    Calls Tryz.prog 141 #[.pointer (some ⟨t.bt, 0, none⟩), .slice A t.h ca] w (RetRs t T w q) := by
  have hv := isVar_yes ht.v
  have hc15 : t.c ≤ 15 := by omega
  have hh24 : t.h ≤ 24 := by omega
  have hh1 : 0 < t.h := by omega
  have hs6 : t.s ≤ 6 := by omega
  have HT := Lib.hid hT
  have HI := Lib.hid hI
  have HX := Lib.hid hx
  have HQ := Lib.hid hq
  have HR := Lib.hid ht.r
  have CNUM := Lib.hid (bearoffNumber_any t.p t.s t.c t.h A t.h ca q w hx.1 hq hc15 hh24)
  have hnum : num t.c q < 500 := Nat.lt_of_lt_of_le (num_lt hq) ht.n
  have HNU : Hid (Lit.int .i64 (num t.c q : Int) ∈ keysU t.N) := mem_keysU (by have := num_lt hq; have h1 : 1 ≤ t.N := wys_pos _ _; have : t.N * 1 ≤ t.N * t.N := Nat.mul_le_mul_left _ h1; unfold RT.N at *; omega)
  have HN5 := Lib.hid ht.n
  have hnr : t.nr ≤ 21 := by rw [← ht.r]; exact rolls_le hs6
  obtain ⟨i0, hi, hz0, hz1, hz2⟩ := info_parts Tryz.infoLL
  have hnr1 : 0 < t.nr := by
    have h1 := rollsN_length t.s
    have h2 : 1 * 2 ≤ t.s * (t.s + 1) := Nat.mul_le_mul (by omega) (by omega)
    have := ht.r
    omega
  have hncr := ht.c
  obtain ⟨rb, ro, hA0, _, _, _⟩ := hI.rl.at hnr1
  have HA0 := Lib.hid hA0
  have HP15 : Hid (PosP t.h 15 q) := ⟨hq.1, hq.2.1, by have := hq.2.2; omega⟩
  have HRM : Hid (∀ k, k < t.nr → 1 ≤ ((rollsN t.s).getD k (0, 0)).2 ∧ ((rollsN t.s).getD k (0, 0)).2 ≤ ((rollsN t.s).getD k (0, 0)).1 ∧ ((rollsN t.s).getD k (0, 0)).1 ≤ t.s) := fun k hk => mem_rollsN.1 (getD_mem' _ _ (by rw [ht.r]; exact hk))
  clear hA0
  have c0 := hI.tb 0 _ rfl
  have c1 := hI.tb 1 _ rfl
  have c2 := hI.tb 2 _ rfl
  have c3 := hI.tb 3 _ rfl
  clear hT hI hx hq hv ht
  go_enter Tryz.func141, Tryz.ntmps141
  go_wp2_with (fail)
  refine CNUM.out.mono ?_
  rintro e w1 ⟨rfl, hb1⟩
  have HB1 := Lib.hid hb1
  have HI1 : Hid (RaceI t T w1) := HI.out.below hb1
  have e6 := HI1.out.tb 6 _ rfl
  have e5 : w1.cell? ⟨t.bt, 5, none⟩ = some (.slice (some ⟨rb, ro, none⟩) t.nr t.cr) := by rw [← HA0.out]; exact HI1.out.tb 5 _ rfl
  obtain ⟨f1, f2, f3, hm⟩ := HI1.out.maps
  have HM := Lib.hid hm
  have hk0 : (0 : Int) ≤ (num t.c q : Int) := by omega
  have hlook := HM.out.1.look_ok keyI Tryz.underlying145 (z := .slice none 0 0) (by kernel_rfl) (key_wf (k := num t.c q) (by omega))
  clear hb1 c0 c1 c2 c3 CNUM hm
  rcases hf : f1 (t.k1 q) with _ | u
  · have hlk : (Instr.lookup 145 (.map (some t.b1)) (.int .i64 (num t.c q : Int)) true).run Tryz.prog w1 = .ok (.tuple #[.slice none 0 0, .bool false]) w1 := by
      have h := hlook
      rw [show Lit.int .i64 (num t.c q : Int) = t.k1 q from rfl, hf] at h
      exact h
    have HF := Lib.hid hf
    clear hf hlook
    go_wp2_with (fail)
    go_loopw [6, 32] (fun v6 v32 wr => ∃ k : Nat, k ≤ t.nr ∧ v32 = .int .i64 k ∧ (∃ vx, vx = v6 ∧ OR T wr w1.heap.size vx ((rsl t.s q).take k)) ∧ Below w1.heap.size w1 wr) (fun _ v32 _ => t.nr - (intOf v32).toNat)
    case atStart => exact ⟨0, by omega, rfl, ⟨_, rfl, OR.nil_ _ _ _⟩, Below.refl _ _⟩
    case round =>
      clear e5 e6 hlk
      obtain ⟨k, hk, rfl, ⟨vx, rfl, hO⟩, hb⟩ := hrel
      have HO := Lib.hid hO
      have HBr := Lib.hid hb
      clear hO hb
      by_cases hlt : k < t.nr
      · have hlk : (k : Int) < (t.nr : Int) := by omega
        have hrl := HI1.out.rl.below HBr.out
        rw [HA0.out] at hrl
        obtain ⟨_, _, hA, hz, q1, q2⟩ := hrl.at hlt
        injection hA with hA
        injection hA with hA1 hA2
        subst hA1 hA2
        obtain ⟨r1, r2, r3⟩ := HRM.out k hlt
        have HRT : Hid ((rsl t.s q).take (k + 1) = (rsl t.s q).take k ++ [resultsL q ((rollsN t.s).getD k (0, 0)).1 ((rollsN t.s).getD k (0, 0)).2]) := rsl_take (by rw [HR.out]; exact hlt)
        have HLT : Hid (((rsl t.s q).take k).length = k) := by unfold Hid; rw [List.length_take, rsl_len, HR.out]; omega
        generalize (rollsN t.s).getD k (0, 0) = r at *
        obtain ⟨a, b⟩ := r
        simp only at r1 r2 r3 q1 q2 HRT
        have HBW : Hid (Below w.heap.size w (wr.alloc (.cells #[.int .i64 a, .int .i64 b] 39))) := (HB1.out.trans (HBr.out.mono HB1.out.size)).alloc (Nat.le_trans HB1.out.size HBr.out.size) _
        have hzz : w.heap.size ≤ w1.heap.size := HB1.out.size
        have hzr : w1.heap.size ≤ wr.heap.size := HBr.out.size
        have HVL := Lib.hid HO.out.lt
        have CRES : Hid (Calls Tryz.prog 125 #[.slice A t.h ca, .agg #[.int .i64 a, .int .i64 b]] (wr.alloc (.cells #[.int .i64 a, .int .i64 b] 39)) (RetO1 (wth T vx) (wr.alloc (.cells #[.int .i64 a, .int .i64 b] 39)) (resultsL q a b))) :=
          bearoffResults_any (wth T vx) A t.h ca a b q _ ((HX.out.set (S' := wth T vx) fun x hx => hx.elim .inl fun h => .inr (Nat.le_trans hzz (HVL.out x h).1)).frm (Frm.of_below' _ HBW.out)) hca HP15.out hh24 hh1 r1 r2 (by omega) (fun x hx => by
            rintro (h | h)
            · exact HT.out x (Nat.le_trans HBW.out.size hx) h
            · have := (HVL.out x h).2; simp at hx; omega)
        obtain ⟨cs, hrow, hpv, _⟩ := HO.out
        have HROW0 := Lib.hid hrow
        have HPV0 := Lib.hid hpv
        clear hrow hpv r1 r2 r3 hrl HRM
        go_wp2_with (fail)
        refine CRES.out.mono ?_
        rintro e w2 ⟨v2, rfl, ho2, hb2⟩
        obtain ⟨A2, c2, rfl, hpl2, hc2⟩ := ho2.read
        have HB2 : Hid (Below wr.heap.size wr w2) := ((Below.refl _ _).alloc (Nat.le_refl _) _).trans (hb2.mono (by simp))
        generalize (resultsL q a b).length = n2 at *
        have HROW := Lib.hid (row_alloc (own_below HROW0.out HB2.out) (.cells #[.slice A2 n2 c2] 94))
        have HPV := Lib.hid ((HPV0.out.frm (Frm.of_below' _ HB2.out)).frm ((Frm.refl (wth T vx) _).alloc (.cells #[.slice A2 n2 c2] 94)))
        have HPE : Hid (PLVs (wth T vx) (w2.alloc (.cells #[.slice A2 n2 c2] 94)) [.slice A2 n2 c2] [resultsL q a b]) := PLVs.one ⟨A2, n2, c2, rfl, hpl2.alloc _, hc2⟩
        have HB3 : Hid (Below w1.heap.size w1 (w2.alloc (.cells #[.slice A2 n2 c2] 94))) := (HBr.out.trans (HB2.out.mono HBr.out.size)).alloc (Nat.le_trans HBr.out.size HB2.out.size) _
        have hzw2 : w1.heap.size ≤ w2.heap.size := Nat.le_trans HBr.out.size HB2.out.size
        clear ho2 hpl2 hb2 HROW0 HPV0 CRES
        go_wp2_with (at_builtin; (refine wpList_append_own_at _ rfl _ _ 163 rfl w1.heap.size 94 i0 (.slice none 0 0) 1 24 Tryz.underlying163 hi hz0 hz1 hz2 rfl (by decide) _ _ _ rfl HROW.out ⟨w2.heap.size, 0, none⟩ 1 1 [.slice A2 n2 c2] rfl rfl (one_new _ _ _) (slice_cell _ _ _) (by have := HLT.out; unfold maxLen; omega) (by have := HLT.out; omega) (by simp; omega) ?_); intro v' w3 hown hgrow _ hat)
        have HO2 : Hid (OR T w3 w1.heap.size v' ((rsl t.s q).take k ++ [resultsL q a b])) := OR.grew HPV.out HPE.out hown rfl hgrow hat (fun x hx => HT.out x (Nat.le_trans hzz hx))
        have HB4 : Hid (Below w1.heap.size w1 w3) := HB3.out.grown hgrow (by simp; omega) (fun x hx => (HVL.out x hx).1)
        clear hown hgrow hat HROW HPV HPE
        go_wp2_with (fail)
        go_roundw
        case rel => exact ⟨k + 1, by omega, by go_num, ⟨_, rfl, by rw [HRT.out]; exact HO2.out⟩, HB4.out⟩
        case measure => (simp [intOf]) <;> omega
      · have hke : k = t.nr := by omega
        have HOE : Hid (OR T wr w1.heap.size vx (rsl t.s q)) := by
          have h := HO.out
          rwa [hke, List.take_of_length_le (by rw [rsl_len, HR.out]; exact Nat.le_refl _)] at h
        have HIr : Hid (RaceI t T wr) := HI1.out.below HBr.out
        have hM1 := HM.out.1.below HBr.out
        obtain ⟨w3, hrun, hst, hgr⟩ := hM1.store keyI Tryz.underlying145 (keysU_len HN5.out) (key := .int .i64 (num t.c q : Int)) (val := vx) (key_wf (by omega)) HNU.out
        have HRES : Hid (RetRs t T w q (.returned vx) w3) := by
          have hTb : T t.b1 := HIr.out.sub _ (.inl rfl)
          have hf : Frm (fun k => k = t.b1) wr w3 := (Frm.of_grown hgr).mono fun k hk => by injection hk
          have hO : ∀ k, k = t.b1 → T k := fun k hk => by rw [hk]; exact hTb
          have hMr : RaceM t T wr f1 f2 f3 := HM.out.frm (Frm.of_below HBr.out) (fun _ h => h.elim) (fun _ h => h.elim)
          refine ⟨vx, rfl, HOE.out.rsv.frm hf hO, ⟨fun j v hv => hf.cell' (HIr.out.tb j v hv) fun h => HIr.out.nt (hO _ h), HIr.out.nt, HIr.out.rl.frm (hf.mono hO), HIr.out.sub, HIr.out.d12, HIr.out.d13, HIr.out.d23, _, _, _, hMr.put1 hst hgr hTb HIr.out.d12 HIr.out.d13 HQ.out HOE.out.rsv⟩, ?_⟩
          exact (Frm.of_below' _ (HB1.out.trans (HBr.out.mono HB1.out.size))).trans (frm_S hgr (.inl rfl))
        have e6 := HIr.out.tb 6 _ rfl
        have hbt := HIr.out.ltB
        clear HOE hst hgr HO hM1
        go_wp2_with (fail)
        go_ret
        exact HRES.out
  · have hlk : (Instr.lookup 145 (.map (some t.b1)) (.int .i64 (num t.c q : Int)) true).run Tryz.prog w1 = .ok (.tuple #[u, .bool true]) w1 := by
      have h := hlook
      rw [show Lit.int .i64 (num t.c q : Int) = t.k1 q from rfl, hf] at h
      exact h
    have HRES : Hid (RetRs t T w q (.returned u) w1) := ⟨u, rfl, HM.out.2.2.2.1 q HQ.out u hf, HI1.out, Frm.of_below' _ HB1.out⟩
    clear hf hlook
    go_wp2_with (fail)
    go_ret
    exact HRES.out
end Go.Proofs.YtlbkfhdnhalpbaaGreat

/- Contract of the chance of the player who waits, out of the program's race table. There are no conditions. -/
namespace Go.Proofs.YtlbkfhdnhalpbaaGreat
set_option linter.unusedVariables false
set_option linter.unusedSimpArgs false
open Go.RowKit Ps Ra Ex Go.Maps

theorem meanE_val {B : Int} (hB : 1 ≤ B) {rs : List (Nat × Nat)} {xs : List E} {e : E} (h : meanE B rs xs = some e) : Val B e := by
  unfold meanE at h
  cases hs : sumE B (rs.zip xs) with
  | none => rw [hs] at h; cases h
  | some t => rw [hs] at h; exact mk_isVal hB h
theorem val_val {s : Nat} (hB : 1 ≤ sq s) : ∀ (f : Nat) {own other : List Int} {e : E}, val s f own other = some e → Val (sq s) e
  | 0, own, other, e, h => by cases h
  | f + 1, own, other, e, h => by
    unfold val at h
    split at h
    · injection h with h; subst h; exact one_val
    · split at h
      · injection h with h; subst h; exact zero_val
      · cases hs : allS (fun r => (bestS (s * s) (fun q => (val s f other q).bind (oneM (s * s))) (resultsL own r.1 r.2)).map fun t => t.2.2) (rollsN s) with
        | none => rw [hs] at h; cases h
        | some xs => rw [hs] at h; exact meanE_val hB h
theorem win_val {s : Nat} (hB : 1 ≤ sq s) {own other : List Int} {e : E} (h : win s own other = some e) : Val (sq s) e := val_val hB _ h
theorem sec_val {s : Nat} (hB : 1 ≤ sq s) {other q : List Int} {e : E} (h : sec s other q = some e) : Val (sq s) e := by
  unfold sec at h
  cases hw : win s other q with
  | none => rw [hw] at h; cases h
  | some x => rw [hw] at h; exact addE_val hB h
theorem RaceI.stored {t : RT} {T : Nat → Prop} {w : World} (h : RaceI t T w) {b i : Nat} (v : Value) (hT : T b) (hS : ¬ t.S b) : RaceI t T (w.setCell ⟨b, i, none⟩ v) :=
  h.own (Frm.set w b i v) (fun k hk => by rw [hk]; exact hT) (fun k hk => by rw [hk]; exact hS)
theorem Frm.ownSet {S : Nat → Prop} {w wr : World} (h : Frm S w wr) {b i : Nat} (hb : w.heap.size ≤ b) (v : Value) : Frm S w (wr.setCell ⟨b, i, none⟩ v) := by
  have hf := Frm.set wr b i v
  exact ⟨hf.os.trans h.os, hf.tape.trans h.tape, hf.output.trans h.output, Nat.le_trans h.size hf.size, fun k hk hn => (hf.block k (Nat.lt_of_lt_of_le hk h.size) (by omega)).trans (h.block k hk hn)⟩
theorem RaceI.wide {t : RT} {T : Nat → Prop} {w : World} (h : RaceI t T w) (m : Nat) : RaceI t (ownT T w m) w := h.set (fun k hk => hk.elim .inl fun h => .inr h.1) (fun k hk => .inl (h.sub k hk))
theorem SQ.wide {T : Nat → Prop} {w : World} {A : Option Addr} {n : Nat} {xs : List Int} (h : SQ T w A n xs) (m : Nat) : SQ (ownT T w m) w A n xs := h.set fun k hk => hk.elim .inl fun h => .inr h.1
theorem SQ.less {T T' : Nat → Prop} {w : World} {A : Option Addr} {n : Nat} {xs : List Int} (h : SQ T w A n xs) (hS : ∀ k, T' k → T k) : SQ T' w A n xs := h.set fun k hk => .inl (hS k hk)
theorem SQ.below {T : Nat → Prop} {w w' : World} {A : Option Addr} {n : Nat} {xs : List Int} (h : SQ T w A n xs) (hb : Below w.heap.size w w') : SQ T w' A n xs := h.frm (Frm.of_below' _ hb)
theorem ownT_new {T : Nat → Prop} {w W : World} {m : Nat} (hT : ∀ k, w.heap.size ≤ k → ¬ T k) (hz : w.heap.size + m ≤ W.heap.size) : ∀ k, W.heap.size ≤ k → ¬ ownT T w m k := by
  rintro k hk (h | h)
  · exact hT k (by omega) h
  · omega
theorem ownT_at {T : Nat → Prop} {w : World} {m b : Nat} (i : Nat) (hb : b = w.heap.size + i) (hi : i < m) : ownT T w m b := .inr ⟨by omega, by omega⟩

/-- The contracts of the table's functions at one pair. -/
def WinC (t : RT) (own other : List Int) : Prop := ∀ (T : Nat → Prop) (A B : Option Addr) (ca cb : Nat) (w : World), (∀ k, w.heap.size ≤ k → ¬ T k) → RaceI t T w → SQ T w A t.h own → t.h ≤ ca → SQ T w B t.h other → t.h ≤ cb →
  Calls Tryz.prog 79 #[.pointer (some ⟨t.bt, 0, none⟩), .slice A t.h ca, .slice B t.h cb] w (RetWn t T w (win t.s own other))
def SecC (t : RT) (q other : List Int) : Prop := ∀ (T : Nat → Prop) (A B : Option Addr) (ca cb : Nat) (w : World), (∀ k, w.heap.size ≤ k → ¬ T k) → RaceI t T w → SQ T w A t.h q → t.h ≤ ca → SQ T w B t.h other → t.h ≤ cb →
  Calls Tryz.prog 126 #[.pointer (some ⟨t.bt, 0, none⟩), .slice A t.h ca, .slice B t.h cb] w (RetWn t T w (sec t.s other q))


set_option maxRecDepth 100000 in
set_option maxHeartbeats 2000000 in
theorem second_any (t : RT) (ht : t.Ok) {q other : List Int} (hw : WinC t other q) : SecC t q other := by
  intro T A B ca cb w hT hI hA hca hB hcb
  have hv := isVar_yes ht.v
  have hs1 : 1 ≤ t.s := by omega
  have hs6 : t.s ≤ 6 := by omega
  obtain ⟨hq1, hq36, _⟩ := sq_bd hs1 hs6
  have hlow := hI.ltS
  have HSUB := Lib.hid hI.sub
  have HNS : Hid (¬ t.S w.heap.size) := fun h => by have := hlow _ h; omega
  have HF0 : Hid (FrS t.S w (w.alloc (.cells #[.int .i64 0, .int .i64 0] 26)) [[.int .i64 0, .int .i64 0]]) := (FrS.start w hlow).allocT (by simp) _ _
  have hb0 : Below w.heap.size w (w.alloc (.cells #[.int .i64 0, .int .i64 0] 26)) := (Below.refl _ _).alloc (Nat.le_refl _) _
  have CW := Lib.hid (hw (ownT T w 1) B A cb ca _ (ownT_new hT (by simp)) ((hI.wide 1).below hb0) ((hB.wide 1).below hb0) hcb ((hA.wide 1).below hb0) hca)
  have HVAL := Lib.hid fun (e : E) (h : win t.s other q = some e) => win_val hq1 h
  have HSEC : Hid (sec t.s other q = (win t.s other q).bind (oneM (sq t.s))) := rfl
  clear hT hI hA hB hw hv ht hlow hb0
  generalize win t.s other q = o at *
  go_enter Tryz.func126, Tryz.ntmps126
  go_wp2_with (fail)
  refine CW.out.mono ?_
  rintro e w1 ⟨rfl, hI1, hf1⟩
  have HI1 := Lib.hid hI1
  have HF1 : Hid (FrS t.S w w1 [[.int .i64 0, .int .i64 0]]) := HF0.out.frm hf1
  clear hI1 hf1 CW HF0
  rcases o with _ | ⟨m, d⟩
  · have HR : Hid (sec t.s other q = none) := by rw [HSEC.out]; rfl
    have HZ := HF1
    have HIz := HI1
    unfold exV
    simp only [Option.getD_none, Option.isSome_none]
    have z0 : w.heap.size < w1.heap.size := HF1.out.ltA 0 rfl (by simp)
    have c00 := HF1.out.cellA (b := w.heap.size) 0 0 rfl rfl
    have f00 := HF1.out.frozA (b := w.heap.size) 0 0 rfl rfl
    have c01 := HF1.out.cellA (b := w.heap.size) 0 1 rfl rfl
    have f01 := HF1.out.frozA (b := w.heap.size) 0 1 rfl rfl
    go_wp2_with (fail)
    refine bodyPost_ret (v := .tuple #[.agg #[.int .i64 0, .int .i64 0], .bool false]) (by simp [results, Tryz.results126, go_sem, c00, c01, z0, f00, f01]) rfl (RetWn.mkN HR.out ?_ ?_)
    · refine RaceI.less (T := ownT T w 1) ?_ (fun k hk => .inl hk) HSUB.out
      repeat (first | exact HIz.out | refine RaceI.alloc ?_ _ | refine RaceI.stored ?_ _ (ownT_at 0 rfl (by omega)) HNS.out)
    · repeat (first | exact HZ.out.f | refine Frm.alloc ?_ _ | refine Frm.ownSet ?_ (by omega) _)
  · have hx : Val (sq t.s) ⟨m, d⟩ := HVAL.out _ rfl
    have COM := Lib.hid fun (W : World) => oneMinus_any t.p t.c t.h m t.s d W hs1 hs6 hx
    have HR0 : Hid (sec t.s other q = oneM (sq t.s) ⟨m, d⟩) := HSEC.out
    have HF2 : Hid (FrS t.S w (w1.alloc (.cells #[.int .i64 m, .int .i64 (d : Int)] 26)) [[.int .i64 0, .int .i64 0]]) := HF1.out.alloc _
    have HI2 : Hid (RaceI t (ownT T w 1) (w1.alloc (.cells #[.int .i64 m, .int .i64 (d : Int)] 26))) := HI1.out.alloc _
    have e0 := HI1.out.tb 0 _ rfl
    have e1 := HI1.out.tb 1 _ rfl
    have e2 := HI1.out.tb 2 _ rfl
    have e3 := HI1.out.tb 3 _ rfl
    have hbt := HI1.out.ltB
    unfold exV
    simp only [Option.getD_some, Option.isSome_some]
    generalize oneM (sq t.s) ⟨m, d⟩ = o1 at *
    rcases o1 with _ | ⟨m1, d1⟩
    · have COM' : Hid (∀ W : World, Calls Tryz.prog 62 #[.agg #[.int .i64 t.p, .int .i64 t.c, .int .i64 t.h, .int .i64 t.s], .agg #[.int .i64 m, .int .i64 d]] W fun e w' => e = .returned (.tuple #[.agg #[.int .i64 0, .int .i64 0], .bool false]) ∧ Below W.heap.size W w') := fun W => COM.out W
      have HR : Hid (sec t.s other q = none) := HR0.out
      clear COM HR0
      have z0 : w.heap.size < w1.heap.size := HF1.out.ltA 0 rfl (by simp)
      have c00 := HF1.out.cellA (b := w.heap.size) 0 0 rfl rfl
      have f00 := HF1.out.frozA (b := w.heap.size) 0 0 rfl rfl
      have c01 := HF1.out.cellA (b := w.heap.size) 0 1 rfl rfl
      have f01 := HF1.out.frozA (b := w.heap.size) 0 1 rfl rfl
      go_wp2_with (fail)
      clear z0 c00 f00 c01 f01
      first | refine wp_region_tail_more2 8 (by kernel_rfl) (by kernel_rfl) ?_ | refine wp_region_tail_more 8 (by kernel_rfl) (by kernel_rfl) ?_
      simp only [List.take_succ_cons, List.take_zero, List.drop_succ_cons, List.drop_zero]
      repeat (first | go_big_quiet_step ((go_at_call 62; exact more_call (COM'.out _))) | quiet_step ((go_at_call 62; exact more_call (COM'.out _))))
      refine wpQuiet_nil ?_
      intro _ hw'
      obtain ⟨tr, hw''⟩ := hw'
      subst hw''
      have HZ := Lib.hid (HF2.out.more tr)
      have HIz := Lib.hid (HI2.out.below (below_more _ tr))
      clear HF2 HI2 e0 e1 e2 e3
      generalize more (w1.alloc (.cells #[.int .i64 m, .int .i64 (d : Int)] 26)) tr = Z at *
      have z0 : w.heap.size < Z.heap.size := HZ.out.ltA 0 rfl (by simp)
      have c00 := HZ.out.cellA (b := w.heap.size) 0 0 rfl rfl
      have f00 := HZ.out.frozA (b := w.heap.size) 0 0 rfl rfl
      have c01 := HZ.out.cellA (b := w.heap.size) 0 1 rfl rfl
      have f01 := HZ.out.frozA (b := w.heap.size) 0 1 rfl rfl
      go_wp2_with (fail)
      refine bodyPost_ret (v := .tuple #[.agg #[.int .i64 0, .int .i64 0], .bool false]) (by simp [results, Tryz.results126, go_sem, c00, c01, z0, f00, f01]) rfl (RetWn.mkN HR.out ?_ ?_)
      · refine RaceI.less (T := ownT T w 1) ?_ (fun k hk => .inl hk) HSUB.out
        repeat (first | exact HIz.out | refine RaceI.alloc ?_ _ | refine RaceI.stored ?_ _ (ownT_at 0 rfl (by omega)) HNS.out)
      · repeat (first | exact HZ.out.f | refine Frm.alloc ?_ _ | refine Frm.ownSet ?_ (by omega) _)
    · have COM' : Hid (∀ W : World, Calls Tryz.prog 62 #[.agg #[.int .i64 t.p, .int .i64 t.c, .int .i64 t.h, .int .i64 t.s], .agg #[.int .i64 m, .int .i64 d]] W fun e w' => e = .returned (.tuple #[.agg #[.int .i64 m1, .int .i64 d1], .bool true]) ∧ Below W.heap.size W w') := fun W => COM.out W
      have HR : Hid (sec t.s other q = some ⟨m1, d1⟩) := HR0.out
      clear COM HR0
      have z0 : w.heap.size < w1.heap.size := HF1.out.ltA 0 rfl (by simp)
      have c00 := HF1.out.cellA (b := w.heap.size) 0 0 rfl rfl
      have f00 := HF1.out.frozA (b := w.heap.size) 0 0 rfl rfl
      have c01 := HF1.out.cellA (b := w.heap.size) 0 1 rfl rfl
      have f01 := HF1.out.frozA (b := w.heap.size) 0 1 rfl rfl
      go_wp2_with (fail)
      clear z0 c00 f00 c01 f01
      first | refine wp_region_tail_more2 8 (by kernel_rfl) (by kernel_rfl) ?_ | refine wp_region_tail_more 8 (by kernel_rfl) (by kernel_rfl) ?_
      simp only [List.take_succ_cons, List.take_zero, List.drop_succ_cons, List.drop_zero]
      repeat (first | go_big_quiet_step ((go_at_call 62; exact more_call (COM'.out _))) | quiet_step ((go_at_call 62; exact more_call (COM'.out _))))
      refine wpQuiet_nil ?_
      intro _ hw'
      obtain ⟨tr, hw''⟩ := hw'
      subst hw''
      have HZ := Lib.hid (HF2.out.more tr)
      have HIz := Lib.hid (HI2.out.below (below_more _ tr))
      clear HF2 HI2 e0 e1 e2 e3
      generalize more (w1.alloc (.cells #[.int .i64 m, .int .i64 (d : Int)] 26)) tr = Z at *
      have z0 : w.heap.size < Z.heap.size := HZ.out.ltA 0 rfl (by simp)
      have c00 := HZ.out.cellA (b := w.heap.size) 0 0 rfl rfl
      have f00 := HZ.out.frozA (b := w.heap.size) 0 0 rfl rfl
      have c01 := HZ.out.cellA (b := w.heap.size) 0 1 rfl rfl
      have f01 := HZ.out.frozA (b := w.heap.size) 0 1 rfl rfl
      go_wp2_with (fail)
      refine bodyPost_ret (v := .tuple #[.agg #[.int .i64 m1, .int .i64 d1], .bool true]) (by simp [results, Tryz.results126, go_sem, c00, c01, z0, f00, f01]) rfl (RetWn.mkY HR.out ?_ ?_)
      · refine RaceI.less (T := ownT T w 1) ?_ (fun k hk => .inl hk) HSUB.out
        repeat (first | exact HIz.out | refine RaceI.alloc ?_ _ | refine RaceI.stored ?_ _ (ownT_at 0 rfl (by omega)) HNS.out)
      · repeat (first | exact HZ.out.f | refine Frm.alloc ?_ _ | refine Frm.ownSet ?_ (by omega) _)
end Go.Proofs.YtlbkfhdnhalpbaaGreat

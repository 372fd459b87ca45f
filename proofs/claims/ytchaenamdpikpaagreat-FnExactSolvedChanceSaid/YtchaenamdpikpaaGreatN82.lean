/- Contracts of the chances of solved boards, out of the tables. There are no conditions beyond those that each states. -/
import Derived.Test.YtchaenamdpikpaaGreatN81
import Derived.Test.YtchaenamdpikpaaGreatN57
import Derived.Test.YtchaenamdpikpaaGreatZv
import Derived.Test.YtchaenamdpikpaaGreatZl
namespace Go.Proofs.YtchaenamdpikpaaGreat
set_option linter.unusedVariables false
set_option linter.unusedSimpArgs false
open Go.RowKit Ps Ra Ex

/-- The chance of a solved board. -/
noncomputable def chS (s h : Nat) (own other : List Int) : Option E := if own.sum = 0 then some ⟨1, 0⟩ else if other.sum = 0 then some ⟨0, 0⟩ else win s (own.take h) (other.take h)
theorem take_pos {h c : Nat} {xs : List Int} (hl : h ≤ xs.length) (h0 : ∀ x ∈ xs, 0 ≤ x) (hs : xs.sum ≤ c) : PosP h c (xs.take h) :=
  ⟨by rw [List.length_take]; omega, fun x hx => h0 x (List.mem_of_mem_take hx), Int.le_trans (sum_take_le xs h h0) hs⟩
theorem SL.take {w : World} {A : Option Addr} {n h : Nat} {xs : List Int} (hx : SL w A n xs) (hl : h ≤ n) : SL w A h (xs.take h) := by
  refine ⟨by rw [List.length_take, hx.1]; omega, fun hn => ?_⟩
  obtain ⟨b, off, hA, hlt, hc⟩ := hx.2 (by omega)
  exact ⟨b, off, hA, hlt, fun i hi => by rw [hc i (by omega)]; simp [List.getD, List.getElem?_take, hi]⟩
theorem SQ.take {S : Nat → Prop} {w : World} {A : Option Addr} {n h : Nat} {xs : List Int} (hx : SQ S w A n xs) (hl : h ≤ n) : SQ S w A h (xs.take h) := ⟨hx.1.take hl, fun hn b off s hA => hx.2 (by omega) b off s hA⟩
theorem stb_eqF {S : Nat → Prop} {l : List Value} : ∀ i v W W', GL (l.map Eqv) i v W → Frm S W W' → GL (l.map Eqv) i v W' := by
  intro i v W W' h _
  unfold GL at *
  by_cases hi : i < l.length
  · rw [List.getD_eq_getElem?_getD, List.getElem?_map, List.getElem?_eq_getElem hi] at h ⊢
    exact h
  · rw [List.getD_eq_getElem?_getD, List.getElem?_map, List.getElem?_eq_none (by omega)] at h ⊢
    trivial
def dsSolv : Nat → Nat
  | 0 => 18
  | 1 => 19
  | 2 => 20
  | 3 => 21
  | 4 => 22
  | 5 => 23
  | 6 => 24
  | 7 => 25
  | 8 => 26
  | 9 => 27
  | 10 => 28
  | 11 => 29
  | 12 => 30
  | 13 => 31
  | 14 => 32
  | 15 => 33
  | 16 => 34
  | 17 => 35
  | 18 => 36
  | 19 => 37
  | _ => 0
set_option maxRecDepth 100000 in
set_option maxHeartbeats 2000000 in
theorem solvedChance_any (t : RT) (ht : t.Ok) {own other : List Int} (b1 o1 n1 c1 b2 o2 n2 c2 : Nat) (w : World) (hI : RaceI t t.S w) (hA : SQ t.S w (some ⟨b1, o1, none⟩) n1 own) (hB : SQ t.S w (some ⟨b2, o2, none⟩) n2 other)
    (hn1 : t.h ≤ n1) (hn2 : t.h ≤ n2) (hc1 : n1 ≤ c1) (hc2 : n2 ≤ c2) (hn3 : n1 ≤ 2000) (hn4 : n2 ≤ 2000) (hq1 : ∀ x ∈ own, 0 ≤ x) (hq2 : ∀ x ∈ other, 0 ≤ x) (hm1 : own.sum ≤ t.c) (hm2 : other.sum ≤ t.c) :
    Calls Tryz.prog 39 #[.pointer (some ⟨t.bt, 0, none⟩), .agg #[.slice (some ⟨b1, o1, none⟩) n1 c1, .slice (some ⟨b2, o2, none⟩) n2 c2]] w (RetWn t t.S w (chS t.s t.h own other)) := by
  have hv := isVar_yes ht.v
  have hlow := hI.ltS
  have HF : Hid (FrS t.S w ((w.alloc (.cells #[.slice (some ⟨b1, o1, none⟩) n1 c1, .slice (some ⟨b2, o2, none⟩) n2 c2] 40)).alloc (.cells #[.int .i64 0, .int .i64 0] 30)) [[.slice (some ⟨b1, o1, none⟩) n1 c1, .slice (some ⟨b2, o2, none⟩) n2 c2], [.int .i64 0, .int .i64 0]]) := ((FrS.start w hlow).allocT (by simp) _ _).allocT (by simp) _ _
  have hb0 : Below w.heap.size w ((w.alloc (.cells #[.slice (some ⟨b1, o1, none⟩) n1 c1, .slice (some ⟨b2, o2, none⟩) n2 c2] 40)).alloc (.cells #[.int .i64 0, .int .i64 0] 30)) := ((Below.refl _ _).alloc (Nat.le_refl _) _).alloc (by simp) _
  have hzV : Hid (w.heap.size + 2 ≤ ((w.alloc (.cells #[.slice (some ⟨b1, o1, none⟩) n1 c1, .slice (some ⟨b2, o2, none⟩) n2 c2] 40)).alloc (.cells #[.int .i64 0, .int .i64 0] 30)).heap.size) := by unfold Hid; simp
  have HI0 := Lib.hid ((hI.wide 2).below hb0)
  have HSUB : Hid (∀ k, t.S k → ownT t.S w 2 k) := fun k hk => .inl hk
  have HA := Lib.hid ((hA.wide 2).below hb0)
  have HBo := Lib.hid ((hB.wide 2).below hb0)
  have HNS : Hid (∀ j, ¬ t.S (w.heap.size + j)) := fun j h => by have := hlow _ h; omega
  have hl1 : own.length = n1 := hA.1.1
  have hl2 : other.length = n2 := hB.1.1
  have CT1 := Lib.hid (total_any (some ⟨b1, o1, none⟩) n1 c1 own _ HA.out.1 hq1 (by omega) (by omega))
  have CT2 := Lib.hid (total_any (some ⟨b2, o2, none⟩) n2 c2 other _ HBo.out.1 hq2 (by omega) (by omega))
  have HP1 := Lib.hid (take_pos (h := t.h) (c := t.c) (by omega) hq1 hm1)
  have HP2 := Lib.hid (take_pos (h := t.h) (c := t.c) (by omega) hq2 hm2)
  have hs1 : own.sum ≤ 15 := by omega
  have hs2 : other.sum ≤ 15 := by omega
  have hs3 := sum_nonneg own hq1
  have hs4 := sum_nonneg other hq2
  have hh24 : t.h ≤ 24 := by omega
  have HC : Hid (chS t.s t.h own other = if own.sum = 0 then some ⟨1, 0⟩ else if other.sum = 0 then some ⟨0, 0⟩ else win t.s (own.take t.h) (other.take t.h)) := rfl
  generalize chS t.s t.h own other = R at *
  generalize ho : win t.s (own.take t.h) (other.take t.h) = o at *
  obtain ⟨xn, hxn⟩ : ∃ x : Int, x = (o.getD ⟨0, 0⟩).num := ⟨_, rfl⟩
  obtain ⟨xd, hxd⟩ : ∃ x : Int, x = ((o.getD ⟨0, 0⟩).depth : Int) := ⟨_, rfl⟩
  obtain ⟨ok, hok⟩ : ∃ x : Bool, x = o.isSome := ⟨_, rfl⟩
  have CW : Hid (∀ (W : World), w.heap.size + 2 ≤ W.heap.size → RaceI t (ownT t.S w 2) W → SQ (ownT t.S w 2) W (some ⟨b1, o1, none⟩) t.h (own.take t.h) → SQ (ownT t.S w 2) W (some ⟨b2, o2, none⟩) t.h (other.take t.h) →
      Calls Tryz.prog 28 #[.pointer (some ⟨t.bt, 0, none⟩), .slice (some ⟨b1, o1, none⟩) t.h c1, .slice (some ⟨b2, o2, none⟩) t.h c2] W fun e W' => e = .returned (.tuple #[.agg #[.int .i64 xn, .int .i64 xd], .bool ok]) ∧ RaceI t (ownT t.S w 2) W' ∧ Frm t.S W W') := fun W hz hI hA hB => by
    have := win_all t ht HP1.out HP2.out (ownT t.S w 2) (some ⟨b1, o1, none⟩) (some ⟨b2, o2, none⟩) c1 c2 W (ownT_new (fun k hk h => by have := hlow k h; omega) hz) hI hA (by omega) hB (by omega)
    rw [ho] at this
    rw [hxn, hxd, hok]
    exact this
  have HXN := Lib.hid hxn
  have HXD := Lib.hid hxd
  have HOK := Lib.hid hok
  clear hI hA hB hlow hb0 hq1 hq2 hm1 hm2 hl1 hl2 hv ht hxn hxd hok ho HP1 HP2
  go_enter Tryz.func39, Tryz.ntmps39
  go_wp2_with (fail)
  generalize ((w.alloc (.cells #[.slice (some ⟨b1, o1, none⟩) n1 c1, .slice (some ⟨b2, o2, none⟩) n2 c2] 40)).alloc (.cells #[.int .i64 0, .int .i64 0] 30)) = V at *
  refine CT1.out.mono ?_
  rintro e w' ⟨rfl, rfl⟩
  clear CT1
  generalize own.sum = S1 at *
  generalize other.sum = S2 at *
  by_cases hz1 : S1 = 0
  · have HR : Hid (R = some ⟨1, 0⟩) := by unfold Hid; rw [HC.out, if_pos hz1]
    have b1' : (S1 == 0) = true := by simp [hz1]
    have HFZ := HF
    clear hz1
    have z0 := HF.out.l0 (by simp)
    have c00 := HF.out.c0 0 rfl
    have f00 := HF.out.f0 0 rfl
    have c01 := HF.out.c0 1 rfl
    have f01 := HF.out.f0 1 rfl
    have z1 := HF.out.l1 (by simp)
    have c10 := HF.out.c1 0 rfl
    have f10 := HF.out.f1 0 rfl
    have c11 := HF.out.c1 1 rfl
    have f11 := HF.out.f1 1 rfl
    go_wp2_with (fail)
    refine bodyPost_ret (v := .tuple #[.agg #[.int .i64 1, .int .i64 0], .bool true]) (by simp [results, Tryz.results39, go_sem, c10, c11, z1, f10, f11]) rfl ⟨by rw [HR.out]; rfl, ?_, ?_⟩
    · refine RaceI.less (T := ownT t.S w 2) ?_ (fun k hk => .inl hk) (fun k hk => hk)
      repeat (first | exact HI0.out | refine RaceI.alloc ?_ _ | refine RaceI.stored ?_ _ (ownT_at 1 rfl (by omega)) (HNS.out 1))
    · repeat (first | exact HFZ.out.f | refine Frm.alloc ?_ _ | refine Frm.ownSet ?_ (by omega) _)
  have b1' : (S1 == 0) = false := by simp [hz1]
  have HZ1 := Lib.hid hz1
  clear hz1
  have z0 := HF.out.l0 (by simp)
  have c00 := HF.out.c0 0 rfl
  have f00 := HF.out.f0 0 rfl
  have c01 := HF.out.c0 1 rfl
  have f01 := HF.out.f0 1 rfl
  have z1 := HF.out.l1 (by simp)
  have c10 := HF.out.c1 0 rfl
  have f10 := HF.out.f1 0 rfl
  have c11 := HF.out.c1 1 rfl
  have f11 := HF.out.f1 1 rfl
  go_wp2_with (fail)
  refine CT2.out.mono ?_
  rintro e w' ⟨rfl, rfl⟩
  clear CT2
  by_cases hz2 : S2 = 0
  · have HR : Hid (R = some ⟨0, 0⟩) := by unfold Hid; rw [HC.out, if_neg HZ1.out, if_pos hz2]
    have b2' : (S2 == 0) = true := by simp [hz2]
    have HFZ := HF
    clear hz2
    go_wp2_with (fail)
    refine bodyPost_ret (v := .tuple #[.agg #[.int .i64 0, .int .i64 0], .bool true]) (by simp [results, Tryz.results39, go_sem, c10, c11, z1, f10, f11]) rfl ⟨by rw [HR.out]; rfl, ?_, ?_⟩
    · refine RaceI.less (T := ownT t.S w 2) ?_ (fun k hk => .inl hk) (fun k hk => hk)
      repeat (first | exact HI0.out | refine RaceI.alloc ?_ _ | refine RaceI.stored ?_ _ (ownT_at 1 rfl (by omega)) (HNS.out 1))
    · repeat (first | exact HFZ.out.f | refine Frm.alloc ?_ _ | refine Frm.ownSet ?_ (by omega) _)
  have b2' : (S2 == 0) = false := by simp [hz2]
  have HR : Hid (R = o) := by unfold Hid; rw [HC.out, if_neg HZ1.out, if_neg hz2]
  clear hz2
  go_wp2_with (fail)
  clear z0 c00 f00 c01 f01 z1 c10 f10 c11 f11
  refine wp_region_early 20 (fun i => i == 19) dsSolv (Frm t.S) (fun W => RaceI t (ownT t.S w 2) W) (GL ([.pointer (some ⟨t.bt, 0, none⟩), .pointer (some ⟨w.heap.size, 0, none⟩), .slice (some ⟨b1, o1, none⟩) n1 c1, .pointer (some ⟨t.bt, 0, none⟩), .pointer (some ⟨t.bt, 0, none⟩), .pointer (some ⟨t.bt, 0, none⟩), .pointer (some ⟨t.bt, 2, none⟩), .int .i64 (t.h : Int), .slice (some ⟨b1, o1, none⟩) t.h c1, .pointer (some ⟨w.heap.size, 1, none⟩), .slice (some ⟨b2, o2, none⟩) n2 c2, .pointer (some ⟨t.bt, 0, none⟩), .pointer (some ⟨t.bt, 0, none⟩), .pointer (some ⟨t.bt, 0, none⟩), .pointer (some ⟨t.bt, 2, none⟩), .int .i64 (t.h : Int), .slice (some ⟨b2, o2, none⟩) t.h c2, .tuple #[.agg #[.int .i64 xn, .int .i64 xd], .bool ok], .agg #[.int .i64 xn, .int .i64 xd], .bool ok].map Eqv)) (by kernel_rfl) (by kernel_rfl) (fun _ _ _ _ _ h => h) (fun _ _ _ h1 h2 => Frm.trans h1 h2) (fun _ => Frm.refl _ _) stb_eqF ((Frm.refl _ _).drew) HI0.out.drew ?_ ?_ ?_
  · intro i op hi hX ho a' W hW hIW hfar hdep
    have e0 : a'.tmps.getD 0 undef = .pointer (some ⟨t.bt, 0, none⟩) := (hfar 0 (by decide)).trans rfl
    have e3 : a'.tmps.getD 3 undef = .pointer (some ⟨w.heap.size, 0, none⟩) := (hfar 3 (by decide)).trans rfl
    have dep : ∀ j, j < 20 → Region.waitsFor .any _ i j = true → (GL ([.pointer (some ⟨t.bt, 0, none⟩), .pointer (some ⟨w.heap.size, 0, none⟩), .slice (some ⟨b1, o1, none⟩) n1 c1, .pointer (some ⟨t.bt, 0, none⟩), .pointer (some ⟨t.bt, 0, none⟩), .pointer (some ⟨t.bt, 0, none⟩), .pointer (some ⟨t.bt, 2, none⟩), .int .i64 (t.h : Int), .slice (some ⟨b1, o1, none⟩) t.h c1, .pointer (some ⟨w.heap.size, 1, none⟩), .slice (some ⟨b2, o2, none⟩) n2 c2, .pointer (some ⟨t.bt, 0, none⟩), .pointer (some ⟨t.bt, 0, none⟩), .pointer (some ⟨t.bt, 0, none⟩), .pointer (some ⟨t.bt, 2, none⟩), .int .i64 (t.h : Int), .slice (some ⟨b2, o2, none⟩) t.h c2, .tuple #[.agg #[.int .i64 xn, .int .i64 xd], .bool ok], .agg #[.int .i64 xn, .int .i64 xd], .bool ok].map Eqv)) j (a'.tmps.getD (dsSolv j) undef) W := hdep
    have hi8 : i = 19 := by simpa using hX
    clear hfar hdep hX hi
    subst hi8
    simp at ho
    subst ho
    · have d35 : a'.tmps.getD 35 undef = .tuple #[.agg #[.int .i64 xn, .int .i64 xd], .bool ok] := dep 17 (by omega) (by kernel_rfl)
      exact ⟨.bool ok, fun W' => by simp only [execOp, Act.eval, d35]; go_simp, rfl⟩
  · intro i op hi hX ho a' W hW hIW hfar hdep
    have e0 : a'.tmps.getD 0 undef = .pointer (some ⟨t.bt, 0, none⟩) := (hfar 0 (by decide)).trans rfl
    have e3 : a'.tmps.getD 3 undef = .pointer (some ⟨w.heap.size, 0, none⟩) := (hfar 3 (by decide)).trans rfl
    have dep : ∀ j, j < 20 → Region.waitsFor .any _ i j = true → (GL ([.pointer (some ⟨t.bt, 0, none⟩), .pointer (some ⟨w.heap.size, 0, none⟩), .slice (some ⟨b1, o1, none⟩) n1 c1, .pointer (some ⟨t.bt, 0, none⟩), .pointer (some ⟨t.bt, 0, none⟩), .pointer (some ⟨t.bt, 0, none⟩), .pointer (some ⟨t.bt, 2, none⟩), .int .i64 (t.h : Int), .slice (some ⟨b1, o1, none⟩) t.h c1, .pointer (some ⟨w.heap.size, 1, none⟩), .slice (some ⟨b2, o2, none⟩) n2 c2, .pointer (some ⟨t.bt, 0, none⟩), .pointer (some ⟨t.bt, 0, none⟩), .pointer (some ⟨t.bt, 0, none⟩), .pointer (some ⟨t.bt, 2, none⟩), .int .i64 (t.h : Int), .slice (some ⟨b2, o2, none⟩) t.h c2, .tuple #[.agg #[.int .i64 xn, .int .i64 xd], .bool ok], .agg #[.int .i64 xn, .int .i64 xd], .bool ok].map Eqv)) j (a'.tmps.getD (dsSolv j) undef) W := hdep
    have hi8 : i = 0 ∨ i = 1 ∨ i = 2 ∨ i = 3 ∨ i = 4 ∨ i = 5 ∨ i = 6 ∨ i = 7 ∨ i = 8 ∨ i = 9 ∨ i = 10 ∨ i = 11 ∨ i = 12 ∨ i = 13 ∨ i = 14 ∨ i = 15 ∨ i = 16 ∨ i = 17 ∨ i = 18 := by simp at hX; omega
    clear hfar hdep hX hi
    rcases hi8 with rfl | rfl | rfl | rfl | rfl | rfl | rfl | rfl | rfl | rfl | rfl | rfl | rfl | rfl | rfl | rfl | rfl | rfl | rfl
    all_goals (simp at ho; subst ho)
    · exact .inl ⟨.pointer (some ⟨t.bt, 0, none⟩), W, by simp only [execOp, Act.eval, e0]; go_simp, Frm.refl _ _, hIW, rfl⟩
    · exact .inl ⟨.pointer (some ⟨w.heap.size, 0, none⟩), W, by simp only [execOp, Act.eval, e3]; go_simp, Frm.refl _ _, hIW, rfl⟩
    · have d19 : a'.tmps.getD 19 undef = .pointer (some ⟨w.heap.size, 0, none⟩) := dep 1 (by omega) (by kernel_rfl)
      have zz := HF.out.frm hW
      have z0 := zz.c0 0 rfl
      exact .inl ⟨.slice (some ⟨b1, o1, none⟩) n1 c1, W, by simp only [execOp, Act.eval, d19]; go_simp, Frm.refl _ _, hIW, rfl⟩
    · exact .inl ⟨.pointer (some ⟨t.bt, 0, none⟩), W, by simp only [execOp, Act.eval, e0]; go_simp, Frm.refl _ _, hIW, rfl⟩
    · have d21 : a'.tmps.getD 21 undef = .pointer (some ⟨t.bt, 0, none⟩) := dep 3 (by omega) (by kernel_rfl)
      exact .inl ⟨.pointer (some ⟨t.bt, 0, none⟩), W, by simp only [execOp, Act.eval, d21]; go_simp, Frm.refl _ _, hIW, rfl⟩
    · have d22 : a'.tmps.getD 22 undef = .pointer (some ⟨t.bt, 0, none⟩) := dep 4 (by omega) (by kernel_rfl)
      exact .inl ⟨.pointer (some ⟨t.bt, 0, none⟩), W, by simp only [execOp, Act.eval, d22]; go_simp, Frm.refl _ _, hIW, rfl⟩
    · have d23 : a'.tmps.getD 23 undef = .pointer (some ⟨t.bt, 0, none⟩) := dep 5 (by omega) (by kernel_rfl)
      exact .inl ⟨.pointer (some ⟨t.bt, 2, none⟩), W, by simp only [execOp, Act.eval, d23]; go_simp, Frm.refl _ _, hIW, rfl⟩
    · have d24 : a'.tmps.getD 24 undef = .pointer (some ⟨t.bt, 2, none⟩) := dep 6 (by omega) (by kernel_rfl)
      have z0 := hIW.tb 2 _ rfl
      exact .inl ⟨.int .i64 (t.h : Int), W, by simp only [execOp, Act.eval, d24]; go_simp, Frm.refl _ _, hIW, rfl⟩
    · have d20 : a'.tmps.getD 20 undef = .slice (some ⟨b1, o1, none⟩) n1 c1 := dep 2 (by omega) (by kernel_rfl)
      have d25 : a'.tmps.getD 25 undef = .int .i64 (t.h : Int) := dep 7 (by omega) (by kernel_rfl)
      exact .inl ⟨.slice (some ⟨b1, o1, none⟩) t.h c1, W, by simp only [execOp, Act.eval, d20, d25]; go_simp; intro hh; exact absurd hh (by omega), Frm.refl _ _, hIW, rfl⟩
    · exact .inl ⟨.pointer (some ⟨w.heap.size, 1, none⟩), W, by simp only [execOp, Act.eval, e3]; go_simp, Frm.refl _ _, hIW, rfl⟩
    · have d27 : a'.tmps.getD 27 undef = .pointer (some ⟨w.heap.size, 1, none⟩) := dep 9 (by omega) (by kernel_rfl)
      have zz := HF.out.frm hW
      have z0 := zz.c0 1 rfl
      exact .inl ⟨.slice (some ⟨b2, o2, none⟩) n2 c2, W, by simp only [execOp, Act.eval, d27]; go_simp, Frm.refl _ _, hIW, rfl⟩
    · exact .inl ⟨.pointer (some ⟨t.bt, 0, none⟩), W, by simp only [execOp, Act.eval, e0]; go_simp, Frm.refl _ _, hIW, rfl⟩
    · have d29 : a'.tmps.getD 29 undef = .pointer (some ⟨t.bt, 0, none⟩) := dep 11 (by omega) (by kernel_rfl)
      exact .inl ⟨.pointer (some ⟨t.bt, 0, none⟩), W, by simp only [execOp, Act.eval, d29]; go_simp, Frm.refl _ _, hIW, rfl⟩
    · have d30 : a'.tmps.getD 30 undef = .pointer (some ⟨t.bt, 0, none⟩) := dep 12 (by omega) (by kernel_rfl)
      exact .inl ⟨.pointer (some ⟨t.bt, 0, none⟩), W, by simp only [execOp, Act.eval, d30]; go_simp, Frm.refl _ _, hIW, rfl⟩
    · have d31 : a'.tmps.getD 31 undef = .pointer (some ⟨t.bt, 0, none⟩) := dep 13 (by omega) (by kernel_rfl)
      exact .inl ⟨.pointer (some ⟨t.bt, 2, none⟩), W, by simp only [execOp, Act.eval, d31]; go_simp, Frm.refl _ _, hIW, rfl⟩
    · have d32 : a'.tmps.getD 32 undef = .pointer (some ⟨t.bt, 2, none⟩) := dep 14 (by omega) (by kernel_rfl)
      have z0 := hIW.tb 2 _ rfl
      exact .inl ⟨.int .i64 (t.h : Int), W, by simp only [execOp, Act.eval, d32]; go_simp, Frm.refl _ _, hIW, rfl⟩
    · have d28 : a'.tmps.getD 28 undef = .slice (some ⟨b2, o2, none⟩) n2 c2 := dep 10 (by omega) (by kernel_rfl)
      have d33 : a'.tmps.getD 33 undef = .int .i64 (t.h : Int) := dep 15 (by omega) (by kernel_rfl)
      exact .inl ⟨.slice (some ⟨b2, o2, none⟩) t.h c2, W, by simp only [execOp, Act.eval, d28, d33]; go_simp; intro hh; exact absurd hh (by omega), Frm.refl _ _, hIW, rfl⟩
    · have d18 : a'.tmps.getD 18 undef = .pointer (some ⟨t.bt, 0, none⟩) := dep 0 (by omega) (by kernel_rfl)
      have d26 : a'.tmps.getD 26 undef = .slice (some ⟨b1, o1, none⟩) t.h c1 := dep 8 (by omega) (by kernel_rfl)
      have d34 : a'.tmps.getD 34 undef = .slice (some ⟨b2, o2, none⟩) t.h c2 := dep 16 (by omega) (by kernel_rfl)
      refine .inr ⟨28, #[.pointer (some ⟨t.bt, 0, none⟩), .slice (some ⟨b1, o1, none⟩) t.h c1, .slice (some ⟨b2, o2, none⟩) t.h c2], by simp only [execOp, Act.eval, d18, d26, d34]; go_simp, ?_⟩
      refine (CW.out W (Nat.le_trans hzV.out hW.size) hIW ((HA.out.frm (hW.mono HSUB.out)).take hn1) ((HBo.out.frm (hW.mono HSUB.out)).take hn2)).mono ?_
      rintro e W' ⟨rfl, hI', hf'⟩
      exact ⟨_, rfl, hf', hI', rfl⟩
    · have d35 : a'.tmps.getD 35 undef = .tuple #[.agg #[.int .i64 xn, .int .i64 xd], .bool ok] := dep 17 (by omega) (by kernel_rfl)
      exact .inl ⟨.agg #[.int .i64 xn, .int .i64 xd], W, by simp only [execOp, Act.eval, d35]; go_simp, Frm.refl _ _, hIW, rfl⟩
  intro v W hW hIW hg
  have g0 : v 0 = .pointer (some ⟨t.bt, 0, none⟩) := hg 0 (by omega)
  have g1 : v 1 = .pointer (some ⟨w.heap.size, 0, none⟩) := hg 1 (by omega)
  have g2 : v 2 = .slice (some ⟨b1, o1, none⟩) n1 c1 := hg 2 (by omega)
  have g3 : v 3 = .pointer (some ⟨t.bt, 0, none⟩) := hg 3 (by omega)
  have g4 : v 4 = .pointer (some ⟨t.bt, 0, none⟩) := hg 4 (by omega)
  have g5 : v 5 = .pointer (some ⟨t.bt, 0, none⟩) := hg 5 (by omega)
  have g6 : v 6 = .pointer (some ⟨t.bt, 2, none⟩) := hg 6 (by omega)
  have g7 : v 7 = .int .i64 (t.h : Int) := hg 7 (by omega)
  have g8 : v 8 = .slice (some ⟨b1, o1, none⟩) t.h c1 := hg 8 (by omega)
  have g9 : v 9 = .pointer (some ⟨w.heap.size, 1, none⟩) := hg 9 (by omega)
  have g10 : v 10 = .slice (some ⟨b2, o2, none⟩) n2 c2 := hg 10 (by omega)
  have g11 : v 11 = .pointer (some ⟨t.bt, 0, none⟩) := hg 11 (by omega)
  have g12 : v 12 = .pointer (some ⟨t.bt, 0, none⟩) := hg 12 (by omega)
  have g13 : v 13 = .pointer (some ⟨t.bt, 0, none⟩) := hg 13 (by omega)
  have g14 : v 14 = .pointer (some ⟨t.bt, 2, none⟩) := hg 14 (by omega)
  have g15 : v 15 = .int .i64 (t.h : Int) := hg 15 (by omega)
  have g16 : v 16 = .slice (some ⟨b2, o2, none⟩) t.h c2 := hg 16 (by omega)
  have g17 : v 17 = .tuple #[.agg #[.int .i64 xn, .int .i64 xd], .bool ok] := hg 17 (by omega)
  have g18 : v 18 = .agg #[.int .i64 xn, .int .i64 xd] := hg 18 (by omega)
  have g19 : v 19 = .bool ok := hg 19 (by omega)
  simp only [List.drop_succ_cons, List.drop_zero, putV, dsSolv, g0, g1, g2, g3, g4, g5, g6, g7, g8, g9, g10, g11, g12, g13, g14, g15, g16, g17, g18, g19, Act.put]
  clear g0 g1 g2 g3 g4 g5 g6 g7 g8 g9 g10 g11 g12 g13 g14 g15 g16 g17 g18 g19 hg
  have HIW := Lib.hid hIW
  have HFZ := Lib.hid (HF.out.frm hW)
  clear hIW hW HF HI0 CW HA HBo
  have z0 := HFZ.out.l0 (by simp)
  have c00 := HFZ.out.c0 0 rfl
  have f00 := HFZ.out.f0 0 rfl
  have c01 := HFZ.out.c0 1 rfl
  have f01 := HFZ.out.f0 1 rfl
  have z1 := HFZ.out.l1 (by simp)
  have c10 := HFZ.out.c1 0 rfl
  have f10 := HFZ.out.f1 0 rfl
  have c11 := HFZ.out.c1 1 rfl
  have f11 := HFZ.out.f1 1 rfl
  go_wp2_with (fail)
  refine bodyPost_ret (v := .tuple #[.agg #[.int .i64 xn, .int .i64 xd], .bool ok]) (by simp [results, Tryz.results39, go_sem, c10, c11, z1, f10, f11]) rfl ⟨by rw [HR.out, HXN.out, HXD.out, HOK.out]; rfl, ?_, ?_⟩
  · refine RaceI.less (T := ownT t.S w 2) ?_ (fun k hk => .inl hk) (fun k hk => hk)
    repeat (first | exact HIW.out | refine RaceI.alloc ?_ _ | refine RaceI.stored ?_ _ (ownT_at 1 rfl (by omega)) (HNS.out 1))
  · repeat (first | exact HFZ.out.f | refine Frm.alloc ?_ _ | refine Frm.ownSet ?_ (by omega) _)
end Go.Proofs.YtchaenamdpikpaaGreat


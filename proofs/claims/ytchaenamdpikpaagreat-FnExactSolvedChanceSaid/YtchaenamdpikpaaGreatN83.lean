/- Contracts of the reference's chances of solved boards, out of its table. There are no conditions beyond those that each states. -/
import Derived.Test.YtchaenamdpikpaaGreatN82
import Derived.Test.YtchaenamdpikpaaGreatZa
namespace Go.Proofs.YtchaenamdpikpaaGreat
set_option linter.unusedVariables false
set_option linter.unusedSimpArgs false
open Go.RowKit Ps Ra Ex

set_option maxRecDepth 100000 in
theorem l15Home_any (p : Int) (c h s : Nat) (b1 o1 n c1 : Nat) (xs : List Int) (w : World) (hx : SL w (some ⟨b1, o1, none⟩) n xs) (hl : h ≤ n) (hc : n ≤ c1) (hn : n ≤ 2000) :
    Calls Tryz.prog 73 #[.agg #[.int .i64 p, .int .i64 (c : Int), .int .i64 (h : Int), .int .i64 (s : Int)], .slice (some ⟨b1, o1, none⟩) n c1] w fun e w' => ∃ A cc, e = .returned (.slice A h cc) ∧ OwnS w' w.heap.size 2 (.slice A h cc) (xs.take h) ∧ Below w.heap.size w w' := by
  obtain ⟨i0, hi, hz0, hz1, hz2⟩ := info_parts Tryz.infoI
  have hy := hx.take hl
  have hll : (xs.take h).length = h := hy.1
  generalize hys : xs.take h = ys at *
  have hnews : ∀ j u, (ys.map (Value.int .i64))[j]? = some u → w.cell? ((⟨b1, o1, none⟩ : Addr).add j) = some u := by
    intro j u hu
    have hj : j < ys.length := by have := (List.getElem?_eq_some_iff.1 hu).1; simpa using this
    obtain ⟨b, off, h', _, hc'⟩ := hy.2 (by omega)
    injection h' with h'
    rw [h', Addr.add_lit, hc' j (by omega), ← getD_map_int ys j hj, hu]
  have HN : Hid (∀ j u, (ys.map (Value.int .i64))[j]? = some u → ((w.alloc (.cells #[.int .i64 p, .int .i64 (c : Int), .int .i64 (h : Int), .int .i64 (s : Int)] 25)).alloc (.cells #[] 2)).cell? ((⟨b1, o1, none⟩ : Addr).add j) = some u) := by
    intro j u hu
    have h1 := hnews j u hu
    have h2 := (World.cell?_alloc_lt w (.cells #[.int .i64 p, .int .i64 (c : Int), .int .i64 (h : Int), .int .i64 (s : Int)] 25) _ (World.block_lt_of_cell? w _ h1)).trans h1
    exact (World.cell?_alloc_lt _ _ _ (World.block_lt_of_cell? _ _ h2)).trans h2
  have HO : Hid (((w.alloc (.cells #[.int .i64 p, .int .i64 (c : Int), .int .i64 (h : Int), .int .i64 (s : Int)] 25)).alloc (.cells #[] 2)).ownsRow w.heap.size 2 1 (.slice (some ⟨w.heap.size + 1, 0, none⟩) 0 0) 0 []) := by
    have := World.ownsRow_made (w.alloc (.cells #[.int .i64 p, .int .i64 (c : Int), .int .i64 (h : Int), .int .i64 (s : Int)] 25)) (base := w.heap.size) (e := 2) (size := 1) #[] 0 (by simp) (by decide) rfl
    unfold Hid
    simpa using this
  have HB : Hid (Below w.heap.size w ((w.alloc (.cells #[.int .i64 p, .int .i64 (c : Int), .int .i64 (h : Int), .int .i64 (s : Int)] 25)).alloc (.cells #[] 2))) := ((Below.refl _ _).alloc (Nat.le_refl _) _).alloc (by simp) _
  have HL := Lib.hid hll
  have hc9 : h ≤ c1 := by omega
  have hci : (h : Int) ≤ (c1 : Int) := by omega
  have hni : (h : Int) ≤ (n : Int) := by omega
  clear hx hy hll hys hnews
  go_enter Tryz.func73, Tryz.ntmps73
  go_wp2_with (at_builtin; refine wpList_append_own _ rfl _ _ 26 rfl w.heap.size 2 i0 (.int .i64 0) 1 8 Tryz.underlying26 hi hz0 hz1 hz2 rfl (by decide) _ 0 [] rfl HO.out ⟨b1, o1, none⟩ h c1 (ys.map (Value.int .i64)) rfl ?c1 HN.out ?c2 ?c3 ?c4 ?c5 ?_)
  case c1 => rw [List.length_map, HL.out, Nat.mul_one]
  case c2 => exact ints_oneCell _ _
  case c3 => unfold maxLen; omega
  case c4 => omega
  case c5 => simp; omega
  · intro v' w1 hown hgrow _
    have hb : Below w.heap.size w w1 := HB.out.grown hgrow (by simp; omega) (by simp [Value.ownBlock])
    have H : ∃ A cc, v' = .slice A h cc ∧ OwnS w1 w.heap.size 2 (.slice A h cc) ys := by
      have ho : OwnS w1 w.heap.size 2 v' ys := by
        unfold OwnS
        rw [HL.out]
        simpa using hown
      obtain ⟨A, cc, rfl, _⟩ := ho.read
      have hL := HL.out
      rw [hL] at ho
      exact ⟨A, cc, by rw [hL], ho⟩
    have H' := Lib.hid H
    have HB' := Lib.hid hb
    clear H hb hown hgrow
    go_wp2
    go_ret
    obtain ⟨A, cc, rfl, ho⟩ := H'.out
    exact ⟨A, cc, rfl, ho, HB'.out⟩
def CpQ (S : Nat → Prop) (h : Nat) (xs : List Int) : RP := fun v W => ∃ X k, v = .slice X h k ∧ SQ S W X h (xs.take h) ∧ h ≤ k
def gCh (S : Nat → Prop) (h : Nat) (own other : List Int) (l : List Value) (i : Nat) : RP := match i with
  | 7 => CpQ S h own
  | 14 => CpQ S h other
  | i => Eqv (l.getD i undef)
theorem stb_gCh {S : Nat → Prop} {h : Nat} {own other : List Int} {l : List Value} : ∀ i v W W', gCh S h own other l i v W → Frm S W W' → gCh S h own other l i v W' := by
  intro i v W W' hg hf
  unfold gCh at *
  split at hg
  · obtain ⟨X, k, h1, h2, h3⟩ := hg; exact ⟨X, k, h1, h2.frm hf, h3⟩
  · obtain ⟨X, k, h1, h2, h3⟩ := hg; exact ⟨X, k, h1, h2.frm hf, h3⟩
  · exact hg
def dsCh : Nat → Nat
  | 0 => 16
  | 1 => 17
  | 2 => 18
  | 3 => 19
  | 4 => 20
  | 5 => 21
  | 6 => 22
  | 7 => 23
  | 8 => 24
  | 9 => 25
  | 10 => 26
  | 11 => 27
  | 12 => 28
  | 13 => 29
  | 14 => 30
  | 15 => 31
  | 16 => 32
  | 17 => 33
  | _ => 0
set_option maxRecDepth 100000 in
set_option maxHeartbeats 2000000 in
theorem l15Chance_any (t : RT2) (ht : t.Ok) {own other : List Int} (b1 o1 n1 c1 b2 o2 n2 c2 : Nat) (w : World) (hI : TabI t w) (hA : SQ t.S w (some ⟨b1, o1, none⟩) n1 own) (hB : SQ t.S w (some ⟨b2, o2, none⟩) n2 other)
    (hn1 : t.h ≤ n1) (hn2 : t.h ≤ n2) (hc1 : n1 ≤ c1) (hc2 : n2 ≤ c2) (hn3 : n1 ≤ 2000) (hn4 : n2 ≤ 2000) (hq1 : ∀ x ∈ own, 0 ≤ x) (hq2 : ∀ x ∈ other, 0 ≤ x) (hm1 : own.sum ≤ t.c) (hm2 : other.sum ≤ t.c) :
    Calls Tryz.prog 34 #[.pointer (some ⟨t.bt, 0, none⟩), .agg #[.slice (some ⟨b1, o1, none⟩) n1 c1, .slice (some ⟨b2, o2, none⟩) n2 c2]] w (RetTn t w (chS t.s t.h own other)) := by
  have hv := isVar_yes ht.v
  have hlow := hI.ltS
  have HF : Hid (FrS t.S w ((w.alloc (.cells #[.slice (some ⟨b1, o1, none⟩) n1 c1, .slice (some ⟨b2, o2, none⟩) n2 c2] 40)).alloc (.cells #[.int .i64 0, .int .i64 0] 30)) [[.slice (some ⟨b1, o1, none⟩) n1 c1, .slice (some ⟨b2, o2, none⟩) n2 c2], [.int .i64 0, .int .i64 0]]) := ((FrS.start w hlow).allocT (by simp) _ _).allocT (by simp) _ _
  have hb0 : Below w.heap.size w ((w.alloc (.cells #[.slice (some ⟨b1, o1, none⟩) n1 c1, .slice (some ⟨b2, o2, none⟩) n2 c2] 40)).alloc (.cells #[.int .i64 0, .int .i64 0] 30)) := ((Below.refl _ _).alloc (Nat.le_refl _) _).alloc (by simp) _
  have HI0 := Lib.hid (hI.below hb0)
  have HA := Lib.hid (hA.below hb0)
  have HBo := Lib.hid (hB.below hb0)
  have HNS : Hid (∀ j, ¬ t.S (w.heap.size + j)) := fun j h => by have := hlow _ h; omega
  have HNB : Hid (∀ j, t.bt ≠ w.heap.size + j) := fun j h => by have := hI.ltB; omega
  have hl1 : own.length = n1 := hA.1.1
  have hl2 : other.length = n2 := hB.1.1
  have CT1 := Lib.hid (l02Sum_any (some ⟨b1, o1, none⟩) n1 c1 own _ HA.out.1 hq1 (by omega) (by omega))
  have CT2 := Lib.hid (l02Sum_any (some ⟨b2, o2, none⟩) n2 c2 other _ HBo.out.1 hq2 (by omega) (by omega))
  have HP1 := Lib.hid (take_pos (h := t.h) (c := t.c) (by omega) hq1 hm1)
  have HP2 := Lib.hid (take_pos (h := t.h) (c := t.c) (by omega) hq2 hm2)
  have hs1 : own.sum ≤ 15 := by omega
  have hs2 : other.sum ≤ 15 := by omega
  have hs3 := sum_nonneg own hq1
  have hs4 := sum_nonneg other hq2
  have hh24 : t.h ≤ 24 := by omega
  have HC : Hid (chS t.s t.h own other = if own.sum = 0 then some ⟨1, 0⟩ else if other.sum = 0 then some ⟨0, 0⟩ else win t.s (own.take t.h) (other.take t.h)) := rfl
  generalize chS t.s t.h own other = R at *
  generalize ho : win t.s (own.take t.h) (other.take t.h) = o at *
  obtain ⟨xn, hxn⟩ : ∃ x : Int, x = (o.getD ⟨0, 0⟩).num := ⟨_, rfl⟩
  obtain ⟨xd, hxd⟩ : ∃ x : Int, x = ((o.getD ⟨0, 0⟩).depth : Int) := ⟨_, rfl⟩
  obtain ⟨ok, hok⟩ : ∃ x : Bool, x = o.isSome := ⟨_, rfl⟩
  have CW : Hid (∀ (W : World) (X1 : Option Addr) (k1 : Nat) (X2 : Option Addr) (k2 : Nat), TabI t W → SQ t.S W X1 t.h (own.take t.h) → t.h ≤ k1 → SQ t.S W X2 t.h (other.take t.h) → t.h ≤ k2 →
      Calls Tryz.prog 22 #[.pointer (some ⟨t.bt, 0, none⟩), .slice X1 t.h k1, .slice X2 t.h k2] W fun e W' => e = .returned (.tuple #[.agg #[.int .i64 xn, .int .i64 xd], .bool ok]) ∧ TabI t W' ∧ Frm t.S W W') := fun W X1 k1 X2 k2 hI hA h1 hB h2 => by
    have := l12Value_all t ht HP1.out HP2.out X1 X2 k1 k2 W hI hA h1 hB h2
    rw [ho] at this
    rw [hxn, hxd, hok]
    exact this
  have HXN := Lib.hid hxn
  have HXD := Lib.hid hxd
  have HOK := Lib.hid hok
  clear hI hA hB hlow hb0 hq1 hq2 hm1 hm2 hl1 hl2 hv ht hxn hxd hok ho HP1 HP2
  go_enter Tryz.func34, Tryz.ntmps34
  go_wp2_with (fail)
  generalize ((w.alloc (.cells #[.slice (some ⟨b1, o1, none⟩) n1 c1, .slice (some ⟨b2, o2, none⟩) n2 c2] 40)).alloc (.cells #[.int .i64 0, .int .i64 0] 30)) = V at *
  refine CT1.out.mono ?_
  rintro e w' ⟨rfl, rfl⟩
  clear CT1
  generalize own.sum = S1 at *
  generalize other.sum = S2 at *
  by_cases hz1 : S1 = 0
  · have HR : Hid (R = some ⟨1, 0⟩) := by unfold Hid; rw [HC.out, if_pos hz1]
    have b1' : (S1 == 0) = true := by simp [hz1]
    clear hz1
    go_wp2_with (fail)
    refine (l11One_any _).mono ?_
    rintro e V1 ⟨rfl, hb⟩
    have HFZ := Lib.hid (HF.out.below hb)
    have HIZ := Lib.hid (HI0.out.below hb)
    clear hb HF HI0
    have z0 := HFZ.out.l0 (by simp)
    have c00 := HFZ.out.c0 0 rfl
    have f00 := HFZ.out.f0 0 rfl
    have c01 := HFZ.out.c0 1 rfl
    have f01 := HFZ.out.f0 1 rfl
    have z1 := HFZ.out.l1 (by simp)
    have c10 := HFZ.out.c1 0 rfl
    have f10 := HFZ.out.f1 0 rfl
    have c11 := HFZ.out.c1 1 rfl
    have f11 := HFZ.out.f1 1 rfl
    go_wp2_with (fail)
    refine bodyPost_ret (v := .tuple #[.agg #[.int .i64 1, .int .i64 0], .bool true]) (by simp [results, Tryz.results34, go_sem, c10, c11, z1, f10, f11]) rfl ⟨by rw [HR.out]; rfl, ?_, ?_⟩
    · repeat (first | exact HIZ.out | refine TabI.alloc ?_ _ | refine TabI.stored ?_ _ (HNS.out 1) (HNB.out 1))
    · repeat (first | exact HFZ.out.f | refine Frm.alloc ?_ _ | refine Frm.ownSet ?_ (by omega) _)
  have b1' : (S1 == 0) = false := by simp [hz1]
  have HZ1 := Lib.hid hz1
  clear hz1
  have z0 := HF.out.l0 (by simp)
  have c00 := HF.out.c0 0 rfl
  have f00 := HF.out.f0 0 rfl
  have c01 := HF.out.c0 1 rfl
  have f01 := HF.out.f0 1 rfl
  have z1 := HF.out.l1 (by simp)
  have c10 := HF.out.c1 0 rfl
  have f10 := HF.out.f1 0 rfl
  have c11 := HF.out.c1 1 rfl
  have f11 := HF.out.f1 1 rfl
  go_wp2_with (fail)
  refine CT2.out.mono ?_
  rintro e w' ⟨rfl, rfl⟩
  clear CT2
  by_cases hz2 : S2 = 0
  · have HR : Hid (R = some ⟨0, 0⟩) := by unfold Hid; rw [HC.out, if_neg HZ1.out, if_pos hz2]
    have b2' : (S2 == 0) = true := by simp [hz2]
    have HFZ := HF
    clear hz2
    go_wp2_with (fail)
    refine bodyPost_ret (v := .tuple #[.agg #[.int .i64 0, .int .i64 0], .bool true]) (by simp [results, Tryz.results34, go_sem, c10, c11, z1, f10, f11]) rfl ⟨by rw [HR.out]; rfl, ?_, ?_⟩
    · repeat (first | exact HI0.out | refine TabI.alloc ?_ _ | refine TabI.stored ?_ _ (HNS.out 1) (HNB.out 1))
    · repeat (first | exact HFZ.out.f | refine Frm.alloc ?_ _ | refine Frm.ownSet ?_ (by omega) _)
  have b2' : (S2 == 0) = false := by simp [hz2]
  have HR : Hid (R = o) := by unfold Hid; rw [HC.out, if_neg HZ1.out, if_neg hz2]
  clear hz2
  go_wp2_with (fail)
  clear z0 c00 f00 c01 f01 z1 c10 f10 c11 f11
  refine wp_region_early 18 (fun i => i == 17) dsCh (Frm t.S) (fun W => TabI t W) (gCh t.S t.h own other [.pointer (some ⟨t.bt, 0, none⟩), .pointer (some ⟨t.bt, 0, none⟩), .pointer (some ⟨t.bt, 0, none⟩), .pointer (some ⟨t.bt, 0, none⟩), .agg #[.int .i64 t.p, .int .i64 (t.c : Int), .int .i64 (t.h : Int), .int .i64 (t.s : Int)], .pointer (some ⟨w.heap.size, 0, none⟩), .slice (some ⟨b1, o1, none⟩) n1 c1, undef, .pointer (some ⟨t.bt, 0, none⟩), .pointer (some ⟨t.bt, 0, none⟩), .pointer (some ⟨t.bt, 0, none⟩), .agg #[.int .i64 t.p, .int .i64 (t.c : Int), .int .i64 (t.h : Int), .int .i64 (t.s : Int)], .pointer (some ⟨w.heap.size, 1, none⟩), .slice (some ⟨b2, o2, none⟩) n2 c2, undef, .tuple #[.agg #[.int .i64 xn, .int .i64 xd], .bool ok], .agg #[.int .i64 xn, .int .i64 xd], .bool ok]) (by kernel_rfl) (by kernel_rfl) (fun _ _ _ _ _ h => h) (fun _ _ _ h1 h2 => Frm.trans h1 h2) (fun _ => Frm.refl _ _) stb_gCh ((Frm.refl _ _).drew) HI0.out.drew ?_ ?_ ?_
  · intro i op hi hX ho a' W hW hIW hfar hdep
    have e0 : a'.tmps.getD 0 undef = .pointer (some ⟨t.bt, 0, none⟩) := (hfar 0 (by decide)).trans rfl
    have e3 : a'.tmps.getD 3 undef = .pointer (some ⟨w.heap.size, 0, none⟩) := (hfar 3 (by decide)).trans rfl
    have dep : ∀ j, j < 18 → Region.waitsFor .any _ i j = true → (gCh t.S t.h own other [.pointer (some ⟨t.bt, 0, none⟩), .pointer (some ⟨t.bt, 0, none⟩), .pointer (some ⟨t.bt, 0, none⟩), .pointer (some ⟨t.bt, 0, none⟩), .agg #[.int .i64 t.p, .int .i64 (t.c : Int), .int .i64 (t.h : Int), .int .i64 (t.s : Int)], .pointer (some ⟨w.heap.size, 0, none⟩), .slice (some ⟨b1, o1, none⟩) n1 c1, undef, .pointer (some ⟨t.bt, 0, none⟩), .pointer (some ⟨t.bt, 0, none⟩), .pointer (some ⟨t.bt, 0, none⟩), .agg #[.int .i64 t.p, .int .i64 (t.c : Int), .int .i64 (t.h : Int), .int .i64 (t.s : Int)], .pointer (some ⟨w.heap.size, 1, none⟩), .slice (some ⟨b2, o2, none⟩) n2 c2, undef, .tuple #[.agg #[.int .i64 xn, .int .i64 xd], .bool ok], .agg #[.int .i64 xn, .int .i64 xd], .bool ok]) j (a'.tmps.getD (dsCh j) undef) W := hdep
    have hi8 : i = 17 := by simpa using hX
    clear hfar hdep hX hi
    subst hi8
    simp at ho
    subst ho
    · have d31 : a'.tmps.getD 31 undef = .tuple #[.agg #[.int .i64 xn, .int .i64 xd], .bool ok] := dep 15 (by omega) (by kernel_rfl)
      exact ⟨.bool ok, fun W' => by simp only [execOp, Act.eval, d31]; go_simp, rfl⟩
  · intro i op hi hX ho a' W hW hIW hfar hdep
    have e0 : a'.tmps.getD 0 undef = .pointer (some ⟨t.bt, 0, none⟩) := (hfar 0 (by decide)).trans rfl
    have e3 : a'.tmps.getD 3 undef = .pointer (some ⟨w.heap.size, 0, none⟩) := (hfar 3 (by decide)).trans rfl
    have dep : ∀ j, j < 18 → Region.waitsFor .any _ i j = true → (gCh t.S t.h own other [.pointer (some ⟨t.bt, 0, none⟩), .pointer (some ⟨t.bt, 0, none⟩), .pointer (some ⟨t.bt, 0, none⟩), .pointer (some ⟨t.bt, 0, none⟩), .agg #[.int .i64 t.p, .int .i64 (t.c : Int), .int .i64 (t.h : Int), .int .i64 (t.s : Int)], .pointer (some ⟨w.heap.size, 0, none⟩), .slice (some ⟨b1, o1, none⟩) n1 c1, undef, .pointer (some ⟨t.bt, 0, none⟩), .pointer (some ⟨t.bt, 0, none⟩), .pointer (some ⟨t.bt, 0, none⟩), .agg #[.int .i64 t.p, .int .i64 (t.c : Int), .int .i64 (t.h : Int), .int .i64 (t.s : Int)], .pointer (some ⟨w.heap.size, 1, none⟩), .slice (some ⟨b2, o2, none⟩) n2 c2, undef, .tuple #[.agg #[.int .i64 xn, .int .i64 xd], .bool ok], .agg #[.int .i64 xn, .int .i64 xd], .bool ok]) j (a'.tmps.getD (dsCh j) undef) W := hdep
    have hi8 : i = 0 ∨ i = 1 ∨ i = 2 ∨ i = 3 ∨ i = 4 ∨ i = 5 ∨ i = 6 ∨ i = 7 ∨ i = 8 ∨ i = 9 ∨ i = 10 ∨ i = 11 ∨ i = 12 ∨ i = 13 ∨ i = 14 ∨ i = 15 ∨ i = 16 := by simp at hX; omega
    clear hfar hdep hX hi
    rcases hi8 with rfl | rfl | rfl | rfl | rfl | rfl | rfl | rfl | rfl | rfl | rfl | rfl | rfl | rfl | rfl | rfl | rfl
    all_goals (simp at ho; subst ho)
    · exact .inl ⟨.pointer (some ⟨t.bt, 0, none⟩), W, by simp only [execOp, Act.eval, e0]; go_simp, Frm.refl _ _, hIW, rfl⟩
    · exact .inl ⟨.pointer (some ⟨t.bt, 0, none⟩), W, by simp only [execOp, Act.eval, e0]; go_simp, Frm.refl _ _, hIW, rfl⟩
    · have d17 : a'.tmps.getD 17 undef = .pointer (some ⟨t.bt, 0, none⟩) := dep 1 (by omega) (by kernel_rfl)
      exact .inl ⟨.pointer (some ⟨t.bt, 0, none⟩), W, by simp only [execOp, Act.eval, d17]; go_simp, Frm.refl _ _, hIW, rfl⟩
    · have d18 : a'.tmps.getD 18 undef = .pointer (some ⟨t.bt, 0, none⟩) := dep 2 (by omega) (by kernel_rfl)
      exact .inl ⟨.pointer (some ⟨t.bt, 0, none⟩), W, by simp only [execOp, Act.eval, d18]; go_simp, Frm.refl _ _, hIW, rfl⟩
    · have d19 : a'.tmps.getD 19 undef = .pointer (some ⟨t.bt, 0, none⟩) := dep 3 (by omega) (by kernel_rfl)
      have z0 := hIW.tb 0 _ rfl
      have z1 := hIW.tb 1 _ rfl
      have z2 := hIW.tb 2 _ rfl
      have z3 := hIW.tb 3 _ rfl
      exact .inl ⟨.agg #[.int .i64 t.p, .int .i64 (t.c : Int), .int .i64 (t.h : Int), .int .i64 (t.s : Int)], W, by simp only [execOp, Act.eval, d19]; go_simp, Frm.refl _ _, hIW, rfl⟩
    · exact .inl ⟨.pointer (some ⟨w.heap.size, 0, none⟩), W, by simp only [execOp, Act.eval, e3]; go_simp, Frm.refl _ _, hIW, rfl⟩
    · have d21 : a'.tmps.getD 21 undef = .pointer (some ⟨w.heap.size, 0, none⟩) := dep 5 (by omega) (by kernel_rfl)
      have zz := HF.out.frm hW
      have z0 := zz.c0 0 rfl
      exact .inl ⟨.slice (some ⟨b1, o1, none⟩) n1 c1, W, by simp only [execOp, Act.eval, d21]; go_simp, Frm.refl _ _, hIW, rfl⟩
    · have d20 : a'.tmps.getD 20 undef = .agg #[.int .i64 t.p, .int .i64 (t.c : Int), .int .i64 (t.h : Int), .int .i64 (t.s : Int)] := dep 4 (by omega) (by kernel_rfl)
      have d22 : a'.tmps.getD 22 undef = .slice (some ⟨b1, o1, none⟩) n1 c1 := dep 6 (by omega) (by kernel_rfl)
      refine .inr ⟨73, #[.agg #[.int .i64 t.p, .int .i64 (t.c : Int), .int .i64 (t.h : Int), .int .i64 (t.s : Int)], .slice (some ⟨b1, o1, none⟩) n1 c1], by simp only [execOp, Act.eval, d20, d22]; go_simp, ?_⟩
      refine (l15Home_any t.p t.c t.h t.s b1 o1 n1 c1 own W (HA.out.frm hW).1 hn1 hc1 hn3).mono ?_
      rintro e W' ⟨Ac, cc, rfl, ho, hb⟩
      have q := ho.sla (S := t.S) rfl (fun k hk h => by have := hIW.ltS k h; omega)
      exact ⟨_, rfl, Frm.of_below' _ hb, hIW.below hb, Ac, cc, rfl, ⟨q.1.1, fun _ => q.1.2⟩, q.2⟩
    · exact .inl ⟨.pointer (some ⟨t.bt, 0, none⟩), W, by simp only [execOp, Act.eval, e0]; go_simp, Frm.refl _ _, hIW, rfl⟩
    · have d24 : a'.tmps.getD 24 undef = .pointer (some ⟨t.bt, 0, none⟩) := dep 8 (by omega) (by kernel_rfl)
      exact .inl ⟨.pointer (some ⟨t.bt, 0, none⟩), W, by simp only [execOp, Act.eval, d24]; go_simp, Frm.refl _ _, hIW, rfl⟩
    · have d25 : a'.tmps.getD 25 undef = .pointer (some ⟨t.bt, 0, none⟩) := dep 9 (by omega) (by kernel_rfl)
      exact .inl ⟨.pointer (some ⟨t.bt, 0, none⟩), W, by simp only [execOp, Act.eval, d25]; go_simp, Frm.refl _ _, hIW, rfl⟩
    · have d26 : a'.tmps.getD 26 undef = .pointer (some ⟨t.bt, 0, none⟩) := dep 10 (by omega) (by kernel_rfl)
      have z0 := hIW.tb 0 _ rfl
      have z1 := hIW.tb 1 _ rfl
      have z2 := hIW.tb 2 _ rfl
      have z3 := hIW.tb 3 _ rfl
      exact .inl ⟨.agg #[.int .i64 t.p, .int .i64 (t.c : Int), .int .i64 (t.h : Int), .int .i64 (t.s : Int)], W, by simp only [execOp, Act.eval, d26]; go_simp, Frm.refl _ _, hIW, rfl⟩
    · exact .inl ⟨.pointer (some ⟨w.heap.size, 1, none⟩), W, by simp only [execOp, Act.eval, e3]; go_simp, Frm.refl _ _, hIW, rfl⟩
    · have d28 : a'.tmps.getD 28 undef = .pointer (some ⟨w.heap.size, 1, none⟩) := dep 12 (by omega) (by kernel_rfl)
      have zz := HF.out.frm hW
      have z0 := zz.c0 1 rfl
      exact .inl ⟨.slice (some ⟨b2, o2, none⟩) n2 c2, W, by simp only [execOp, Act.eval, d28]; go_simp, Frm.refl _ _, hIW, rfl⟩
    · have d27 : a'.tmps.getD 27 undef = .agg #[.int .i64 t.p, .int .i64 (t.c : Int), .int .i64 (t.h : Int), .int .i64 (t.s : Int)] := dep 11 (by omega) (by kernel_rfl)
      have d29 : a'.tmps.getD 29 undef = .slice (some ⟨b2, o2, none⟩) n2 c2 := dep 13 (by omega) (by kernel_rfl)
      refine .inr ⟨73, #[.agg #[.int .i64 t.p, .int .i64 (t.c : Int), .int .i64 (t.h : Int), .int .i64 (t.s : Int)], .slice (some ⟨b2, o2, none⟩) n2 c2], by simp only [execOp, Act.eval, d27, d29]; go_simp, ?_⟩
      refine (l15Home_any t.p t.c t.h t.s b2 o2 n2 c2 other W (HBo.out.frm hW).1 hn2 hc2 hn4).mono ?_
      rintro e W' ⟨Ac, cc, rfl, ho, hb⟩
      have q := ho.sla (S := t.S) rfl (fun k hk h => by have := hIW.ltS k h; omega)
      exact ⟨_, rfl, Frm.of_below' _ hb, hIW.below hb, Ac, cc, rfl, ⟨q.1.1, fun _ => q.1.2⟩, q.2⟩
    · have d16 : a'.tmps.getD 16 undef = .pointer (some ⟨t.bt, 0, none⟩) := dep 0 (by omega) (by kernel_rfl)
      obtain ⟨X1, k1, d23, s1, l1⟩ : CpQ t.S t.h own (a'.tmps.getD 23 undef) W := dep 7 (by omega) (by kernel_rfl)
      obtain ⟨X2, k2, d30, s2, l2⟩ : CpQ t.S t.h other (a'.tmps.getD 30 undef) W := dep 14 (by omega) (by kernel_rfl)
      refine .inr ⟨22, #[.pointer (some ⟨t.bt, 0, none⟩), .slice X1 t.h k1, .slice X2 t.h k2], by simp only [execOp, Act.eval, d16, d23, d30]; go_simp, ?_⟩
      refine (CW.out W X1 k1 X2 k2 hIW s1 l1 s2 l2).mono ?_
      rintro e W' ⟨rfl, hI', hf'⟩
      exact ⟨_, rfl, hf', hI', rfl⟩
    · have d31 : a'.tmps.getD 31 undef = .tuple #[.agg #[.int .i64 xn, .int .i64 xd], .bool ok] := dep 15 (by omega) (by kernel_rfl)
      exact .inl ⟨.agg #[.int .i64 xn, .int .i64 xd], W, by simp only [execOp, Act.eval, d31]; go_simp, Frm.refl _ _, hIW, rfl⟩
  intro v W hW hIW hg
  have g0 : v 0 = .pointer (some ⟨t.bt, 0, none⟩) := hg 0 (by omega)
  have g1 : v 1 = .pointer (some ⟨t.bt, 0, none⟩) := hg 1 (by omega)
  have g2 : v 2 = .pointer (some ⟨t.bt, 0, none⟩) := hg 2 (by omega)
  have g3 : v 3 = .pointer (some ⟨t.bt, 0, none⟩) := hg 3 (by omega)
  have g4 : v 4 = .agg #[.int .i64 t.p, .int .i64 (t.c : Int), .int .i64 (t.h : Int), .int .i64 (t.s : Int)] := hg 4 (by omega)
  have g5 : v 5 = .pointer (some ⟨w.heap.size, 0, none⟩) := hg 5 (by omega)
  have g6 : v 6 = .slice (some ⟨b1, o1, none⟩) n1 c1 := hg 6 (by omega)
  obtain ⟨_, _, g7, _, _⟩ : CpQ t.S t.h own (v 7) W := hg 7 (by omega)
  have g8 : v 8 = .pointer (some ⟨t.bt, 0, none⟩) := hg 8 (by omega)
  have g9 : v 9 = .pointer (some ⟨t.bt, 0, none⟩) := hg 9 (by omega)
  have g10 : v 10 = .pointer (some ⟨t.bt, 0, none⟩) := hg 10 (by omega)
  have g11 : v 11 = .agg #[.int .i64 t.p, .int .i64 (t.c : Int), .int .i64 (t.h : Int), .int .i64 (t.s : Int)] := hg 11 (by omega)
  have g12 : v 12 = .pointer (some ⟨w.heap.size, 1, none⟩) := hg 12 (by omega)
  have g13 : v 13 = .slice (some ⟨b2, o2, none⟩) n2 c2 := hg 13 (by omega)
  obtain ⟨_, _, g14, _, _⟩ : CpQ t.S t.h other (v 14) W := hg 14 (by omega)
  have g15 : v 15 = .tuple #[.agg #[.int .i64 xn, .int .i64 xd], .bool ok] := hg 15 (by omega)
  have g16 : v 16 = .agg #[.int .i64 xn, .int .i64 xd] := hg 16 (by omega)
  have g17 : v 17 = .bool ok := hg 17 (by omega)
  simp only [List.drop_succ_cons, List.drop_zero, putV, dsCh, g0, g1, g2, g3, g4, g5, g6, g7, g8, g9, g10, g11, g12, g13, g14, g15, g16, g17, Act.put]
  clear g0 g1 g2 g3 g4 g5 g6 g7 g8 g9 g10 g11 g12 g13 g14 g15 g16 g17 hg
  have HIW := Lib.hid hIW
  have HFZ := Lib.hid (HF.out.frm hW)
  clear hIW hW HF HI0 CW HA HBo
  have z0 := HFZ.out.l0 (by simp)
  have c00 := HFZ.out.c0 0 rfl
  have f00 := HFZ.out.f0 0 rfl
  have c01 := HFZ.out.c0 1 rfl
  have f01 := HFZ.out.f0 1 rfl
  have z1 := HFZ.out.l1 (by simp)
  have c10 := HFZ.out.c1 0 rfl
  have f10 := HFZ.out.f1 0 rfl
  have c11 := HFZ.out.c1 1 rfl
  have f11 := HFZ.out.f1 1 rfl
  go_wp2_with (fail)
  refine bodyPost_ret (v := .tuple #[.agg #[.int .i64 xn, .int .i64 xd], .bool ok]) (by simp [results, Tryz.results34, go_sem, c10, c11, z1, f10, f11]) rfl ⟨by rw [HR.out, HXN.out, HXD.out, HOK.out]; rfl, ?_, ?_⟩
  · repeat (first | exact HIW.out | refine TabI.alloc ?_ _ | refine TabI.stored ?_ _ (HNS.out 1) (HNB.out 1))
  · repeat (first | exact HFZ.out.f | refine Frm.alloc ?_ _ | refine Frm.ownSet ?_ (by omega) _)
end Go.Proofs.YtchaenamdpikpaaGreat


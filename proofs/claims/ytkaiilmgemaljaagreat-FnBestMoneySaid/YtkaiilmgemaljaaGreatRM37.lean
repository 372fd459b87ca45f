/- Part of one proof. There are no conditions. -/
import Derived.Test.YtkaiilmgemaljaaGreatRM36
import Derived.Test.YtkaiilmgemaljaaGreatRM24
import Derived.Test.YtkaiilmgemaljaaGreatRZe
import Derived.Deep.RegionHeldLaw
import Derived.Deep.AppendLies
set_option maxHeartbeats 0
set_option linter.unusedVariables false
set_option linter.unusedSimpArgs false
set_option maxRecDepth 100000
namespace Go.Proofs.YtkaiilmgemaljaaGreat
open Go.RowKit Mo Ps Ra Ex
theorem codeL_more (p c h s m:Int) (own other:List Int) (v o:Int) (more:Bool):
  codeL p c h s m own other v o more=if (codeL p c h s m own other v o true=0\/codeL p c h s m own other v o true=3)/\more=false then 2 else codeL p c h s m own other v o true:=by
 by_cases h1:isVar p c h s=true/\rulB m=true
 ·by_cases h2:posB h c own=true/\posB h c other=true/\cubB m v o=true
  ·cases more with
   | true=>rw[if_neg (fun hx=>by cases hx.2)]
   | false =>
     rw [dx (more := false) h1.1 h1.2 (fun hx => by cases hx.2.2.2), kL (more := true) h1.1 h1.2 ⟨h2.1, h2.2.1, h2.2.2, rfl⟩]
     split <;> simp
  ·rw[dx (more:=more) h1.1 h1.2 (fun hx=>h2 ⟨hx.1,hx.2.1,hx.2.2.1⟩),dx (more:=true) h1.1 h1.2 (fun hx=>h2 ⟨hx.1,hx.2.1,hx.2.2.1⟩),if_neg (fun hx=>by omega)]
 ·rw[gQ (more:=more) h1,gQ (more:=true) h1,if_neg (fun hx=>by omega)]
theorem sIsRoll_any (p c h s a b:Int) (w:World):Calls Tryz.prog 122 #[.agg #[.int .i64 p,.int .i64 c,.int .i64 h,.int .i64 s],.agg #[.int .i64 a,.int .i64 b]] w fun e w'=>e = .returned (.bool (isVar p c h s&&rollB s a b))/\Below w.heap.size w w':=by
 have HB:Hid (Below w.heap.size w ((w.alloc (.cells #[.int .i64 p,.int .i64 c,.int .i64 h,.int .i64 s] 25)).alloc (.cells #[.int .i64 a,.int .i64 b] 39))):=((Below.refl _ _).alloc (Nat.le_refl _) _).alloc (by simp) _
 by_cases hv:isVar p c h s=true
 focus
  by_cases h1:1<=a/\a<=s
  focus
   have e1:=aS h1
   by_cases h2:1<=b/\b<=a
   focus
    have e2:=aS h2
    have HF:Hid ((isVar p c h s&&rollB s a b)=true):=by unfold Hid;rw[hv,Bool.true_and];exact decide_eq_true (by omega)
    refine ?za
   rotate_left
   focus
    have e2:=bF h2
    refine ?zb
  rotate_left 2
  focus
   have e1:=bF h1
   refine ?zc
 rotate_left 3
 focus
  replace hv:isVar p c h s=false:=by simpa using hv
  have HF:Hid ((isVar p c h s&&rollB s a b)=false):=by unfold Hid;rw[hv,Bool.false_and]
  refine ?zd
 rotate_left
 case' zb|zc=>
  have HF:Hid ((isVar p c h s&&rollB s a b)=false):=by unfold Hid;rw[hv,Bool.true_and];exact decide_eq_false (by omega)
 case za|zb|zc|zd=>
  go_enter Tryz.func122,Tryz.ntmps122
  go_wp2_with (first|(go_at_call 80;refine (more_first (aw _ _ _ _ _)).mono ?_;rintro e w' ⟨rfl,t,rfl⟩)|(go_at_call 134;refine (l01In_any _ _ _ _).mono ?_;rintro e w' ⟨rfl,rfl⟩))
  go_ret
  exact⟨by rw[HF.out];rfl,HB.out.trans ((aa _ _).mono HB.out.size)⟩
theorem fi (p c h s km:Int) (bv j:Bool) (A B:Option Addr) (n k ca cb:Nat) (own other:List Int) (v o ra rb:Int) (w:World) (hA:SL w A n own) (hB:SL w B k other) (hca:n<=ca) (hcb:k<=cb):
  Calls Tryz.prog 43 #[.agg #[.int .i64 p,.int .i64 c,.int .i64 h,.int .i64 s],.agg #[.int .i64 km,.bool bv,.bool j],.slice A n ca,.slice B k cb,.agg #[.int .i64 v,.int .i64 o],.agg #[.int .i64 ra,.int .i64 rb]] w (RetIX w (bmR p c h s km bv own other v o ra rb)):=by
 have HF0:Hid (Fr w (((((w.alloc (.cells #[.int .i64 p,.int .i64 c,.int .i64 h,.int .i64 s] 25)).alloc (.cells #[.int .i64 km,.bool bv,.bool j] 53)).alloc (.cells #[.int .i64 v,.int .i64 o] 55)).alloc (.cells #[.int .i64 ra,.int .i64 rb] 39)).alloc (.cells #[.int .i64 0,.int .i64 0] 35)) [[.int .i64 p,.int .i64 c,.int .i64 h,.int .i64 s],[.int .i64 km,.bool bv,.bool j],[.int .i64 v,.int .i64 o],[.int .i64 ra,.int .i64 rb],[.int .i64 0,.int .i64 0]]):=(((((Fr.start w).allocT (by simp) _ _).allocT (by simp) _ _).allocT (by simp) _ _).allocT (by simp) _ _).allocT (by simp) _ _
 have HA0:=h_ (hA.below HF0.out.b);have HB0:=h_ (hB.below HF0.out.b);have HAL:=h_ hA.1;have HBL:=h_ hB.1;obtain⟨mr,hmr⟩:∃mr,mr=(isVar p c h s&&rollB s ra rb):=⟨_,rfl⟩
 have CR:Hid (∀W:World,Calls Tryz.prog 122 #[.agg #[.int .i64 p,.int .i64 c,.int .i64 h,.int .i64 s],.agg #[.int .i64 ra,.int .i64 rb]] W fun e w'=>e = .returned (.bool mr)/\Below W.heap.size W w'):=fun W=>by
  have:=sIsRoll_any p c h s ra rb W;rw[<- hmr]at this;exact this
 have CK:=h_ (iX p c h s km bv j A B n k ca cb own other v o _ HA0.out HB0.out);have hmo:=codeL_more p c h s km own other v o mr;clear hA hB
 by_cases hcl:codeL p c h s km own other v o true=0
 ·rw[hcl]at CK
  cases hm:mr with
  | false =>
    rw [hm] at hmr hmo CR
    have HWR : Hid (bmR p c h s km bv own other v o ra rb = ([], 0, 0, 2)) := by
      unfold Hid bmR
      rw [<- hmr, da (k := 2) (by rw [hmo, if_pos ⟨.inl hcl, rfl⟩]) (by decide), if_neg (by decide)]
    clear hmr hmo hcl HAL HBL
    go_enter Tryz.func43, Tryz.ntmps43
    go_wp2_with (fail)
    refine CK.out.mono ?_
    rintro e w1 ⟨rfl, hb1⟩
    have HFX := h_ (HF0.out.below hb1); have HAX := h_ (HA0.out.below hb1); have HBX := h_ (HB0.out.below hb1); clear CK hb1 HF0 HA0 HB0; obtain ⟨z0, c00, f00, c01, f01, c02, f02, c03, f03, z1, c10, f10, c11, f11, c12, f12, z2, c20, f20, c21, f21, z3, c30, f30, c31, f31, z4, c40, f40, c41, f41⟩ := HFX.out.xf8
    go_wp2_with ((go_at_call 122; (with_reducible refine (more_first (CR.out _)).mono ?_); rintro e w' ⟨rfl, tq, rfl⟩))
    refine bodyPost_ret (v := .tuple #[.slice none 0 0, .agg #[.int .i64 0, .int .i64 0], .int .i64 (2)]) (by simp [results, Tryz.results43, go_sem, c40, c41, z4, f40, f41]) rfl (RetIX.no HWR.out ?_)
    repeat (first | exact HFX.out.b | refine stw ?_ (by omega) | refine alw ?_ (by omega) | exact blw HFX.out.b (Nat.le_refl _) | exact blw (blw HFX.out.b (Nat.le_refl _)) (Nat.le_refl _))
  | true =>
    rw [hm] at hmr hmo CR; have hcl2 := hcl; obtain ⟨hv, hr, hp1, hp2, hcu, _, hgi⟩ := dq hcl; have hro : rollB s ra rb = true := (Bool.and_eq_true_iff.1 hmr.symm).2; have hvv := aj hv; obtain ⟨a, b, rfl, rfl, ha1, ha2, hb1, hb2⟩ := iO hro; obtain ⟨K, hK, rfl⟩ := dh hr
    obtain ⟨c', rfl⟩ : ∃ c' : Nat, c = c' := ⟨c.toNat, by omega⟩
    obtain ⟨h', rfl⟩ : ∃ h' : Nat, h = h' := ⟨h.toNat, by omega⟩
    obtain ⟨s', rfl⟩ : ∃ s' : Nat, s = s' := ⟨s.toNat, by omega⟩
    rw [d7 hK] at hgi; obtain ⟨hN, _⟩ := eV hgi
    have hh1 : 0 < h' := by omega
    have hh24 : h' <= 24 := by omega
    have HP1 := h_ (bA hp1); have HP2 := h_ (bA hp2); have hcb0 := gN hcu
    have hnh : h' = n := by rw [<- HAL.out]; exact (HP1.out.1).symm
    have hmh : h' = k := by rw [<- HBL.out]; exact (HP2.out.1).symm
    subst hnh; subst hmh; have HPP := HP1.out
    have CNEW := h_ fun (W : World) => jJ p c' h' s' K bv j W hv hK hgi
    have TOA := h_ fun (W : World) (hx : SL W A h' own) => ct A h' ca own W hx HP1.out.2.1 (by omega)
    have TOB := h_ fun (W : World) (hx : SL W B h' other) => ct B h' cb other W hx HP2.out.2.1 (by omega)
    by_cases hz1 : own.sum = 0
    · have HWR : Hid (bmR p c' h' s' (two K) bv own other v o a b = ([], 0, 0, 5)) := by
        unfold Hid bmR
        have : codeM p c' h' s' (two K) own other v o true = 5 := by unfold codeM; rw [if_pos hcl, if_pos (.inl hz1)]
        rw [<- hmr, this, if_neg (by decide)]
      rw [decide_eq_true hz1] at TOA; clear hcl hcl2 hv hr hp1 hp2 hcu hgi hro hvv hN HPP ha1 ha2 hb1 hb2 hz1 HP1 HP2 hcb0 hK hmr hmo CNEW TOB HAL HBL hh1 hh24
      go_enter Tryz.func43, Tryz.ntmps43
      go_wp2_with (fail)
      refine CK.out.mono ?_
      rintro e w1 ⟨rfl, hb1⟩
      have HFX := h_ (HF0.out.below hb1); have HAX := h_ (HA0.out.below hb1); have HBX := h_ (HB0.out.below hb1); clear CK hb1 HF0 HA0 HB0; obtain ⟨z0, c00, f00, c01, f01, c02, f02, c03, f03, z1, c10, f10, c11, f11, c12, f12, z2, c20, f20, c21, f21, z3, c30, f30, c31, f31, z4, c40, f40, c41, f41⟩ := HFX.out.xf8
      go_wp2_with (first | (go_at_call 122; (with_reducible refine (more_first (CR.out _)).mono ?_); rintro e w' ⟨rfl, tq, rfl⟩) | (go_at_call_of 106 A; refine (TOA.out _ (HAX.out.more _)).mono ?_; rintro e w' ⟨rfl, rfl⟩))
      refine bodyPost_ret (v := .tuple #[.slice none 0 0, .agg #[.int .i64 0, .int .i64 0], .int .i64 (5)]) (by simp [results, Tryz.results43, go_sem, c40, c41, z4, f40, f41]) rfl (RetIX.no HWR.out ?_)
      repeat (first | exact HFX.out.b | refine stw ?_ (by omega) | refine alw ?_ (by omega) | exact blw HFX.out.b (Nat.le_refl _) | exact blw (blw HFX.out.b (Nat.le_refl _)) (Nat.le_refl _))
    · by_cases hz2 : other.sum = 0
      · have HWR : Hid (bmR p c' h' s' (two K) bv own other v o a b = ([], 0, 0, 5)) := by
          unfold Hid bmR
          have : codeM p c' h' s' (two K) own other v o true = 5 := by unfold codeM; rw [if_pos hcl, if_pos (.inr hz2)]
          rw [<- hmr, this, if_neg (by decide)]
        rw [decide_eq_false hz1] at TOA; rw [decide_eq_true hz2] at TOB; clear hcl hcl2 hv hr hp1 hp2 hcu hgi hro hvv hN HPP ha1 ha2 hb1 hb2 hz1 hz2 HP1 HP2 hcb0 hK hmr hmo CNEW HAL HBL hh1 hh24
        go_enter Tryz.func43, Tryz.ntmps43
        go_wp2_with (fail)
        refine CK.out.mono ?_
        rintro e w1 ⟨rfl, hb1⟩
        have HFX := h_ (HF0.out.below hb1); have HAX := h_ (HA0.out.below hb1); have HBX := h_ (HB0.out.below hb1); clear CK hb1 HF0 HA0 HB0; obtain ⟨z0, c00, f00, c01, f01, c02, f02, c03, f03, z1, c10, f10, c11, f11, c12, f12, z2, c20, f20, c21, f21, z3, c30, f30, c31, f31, z4, c40, f40, c41, f41⟩ := HFX.out.xf8
        go_wp2_with (first | (go_at_call 122; (with_reducible refine (more_first (CR.out _)).mono ?_); rintro e w' ⟨rfl, tq, rfl⟩) | (go_at_call_of 106 A; refine (TOA.out _ (HAX.out.more _)).mono ?_; rintro e w' ⟨rfl, rfl⟩) | (go_at_call_of 106 B; refine (TOB.out _ (HBX.out.more _)).mono ?_; rintro e w' ⟨rfl, rfl⟩))
        refine bodyPost_ret (v := .tuple #[.slice none 0 0, .agg #[.int .i64 0, .int .i64 0], .int .i64 (5)]) (by simp [results, Tryz.results43, go_sem, c40, c41, z4, f40, f41]) rfl (RetIX.no HWR.out ?_)
        repeat (first | exact HFX.out.b | refine stw ?_ (by omega) | refine alw ?_ (by omega) | exact blw HFX.out.b (Nat.le_refl _) | exact blw (blw HFX.out.b (Nat.le_refl _)) (Nat.le_refl _))
      · have HNE := h_ (bY (by omega : 1 ≤ a) hb1 HPP)
        have HRP : Hid (∀ q ∈ resultsL own a b, q.length = h') := fun q hq => (aN (by omega) hb1 HPP q hq).1.1
        have HW0 : Hid (bmR p c' h' s' (two K) bv own other v o a b = match bestS (sq s') (neqv s' ⟨two K, bv⟩ other (v, o)) (resultsL own a b) with | none => ([], 0, 0, 3) | some (_, at', x) => ((resultsL own a b).getD at' [], x.num, (x.depth : Int), 0)) := by
          unfold Hid bmR
          have : codeM p c' h' s' (two K) own other v o true = 0 := by unfold codeM; rw [if_pos hcl, if_neg (fun hx => by rcases hx with hx | hx <;> contradiction)]
          rw [<- hmr, this, if_pos rfl]
          simp only [Int.toNat_natCast]
          rfl
        have HALL : Hid (∀ (t : WT), t.c = c' -> t.h = h' -> t.s = s' -> t.K = K -> t.bv = bv -> t.Ok -> ∀ W : World, TbI t false W -> SQ t.S W A h' own -> SQ t.S W B h' other -> Calls Tryz.prog 123 #[.pointer (some ⟨t.bt, 0, none⟩), .slice A h' ca, .slice B h' cb, .agg #[.int .i64 v, .int .i64 o], .agg #[.int .i64 (a : Int), .int .i64 (b : Int)]] W (RetTA t W false (resultsL own a b) (bestS (sq s') (neqv s' ⟨two K, bv⟩ other (v, o)) (resultsL own a b)))) := by
          intro t e1 e2 e3 e4 e5 hok W hI h1 h2
          subst e1 e2 e3 e4 e5
          exact aftT_all t hok HP1.out HP2.out hz1 (c := (v, o)) hcb0 hb1 hb2 (by omega) false A B ca cb W hI h1 hca h2 hcb
        rw [decide_eq_false hz1] at TOA; rw [decide_eq_false hz2] at TOB; obtain ⟨i0, hi, hy0, hy1, hy2⟩ := info_parts Tryz.infoI; clear hcl hcl2 hv hr hp1 hp2 hcu hgi hro hvv hN HPP ha1 ha2 hb1 hb2 hz1 hz2 HP1 HP2 hcb0 hK hmr hmo HAL HBL; generalize resultsL own a b = L at *; generalize bestS (sq s') (neqv s' ⟨two K, bv⟩ other (v, o)) L = q at *; generalize bmR p c' h' s' (two K) bv own other v o a b = rr at *
        go_enter Tryz.func43, Tryz.ntmps43
        go_wp2_with (fail)
        refine CK.out.mono ?_
        rintro e w1 ⟨rfl, hb1⟩
        have HFX := h_ (HF0.out.below hb1); have HAX := h_ (HA0.out.below hb1); have HBX := h_ (HB0.out.below hb1); clear CK hb1 HF0 HA0 HB0; obtain ⟨z0, c00, f00, c01, f01, c02, f02, c03, f03, z1, c10, f10, c11, f11, c12, f12, z2, c20, f20, c21, f21, z3, c30, f30, c31, f31, z4, c40, f40, c41, f41⟩ := HFX.out.xf8
        go_wp2_with (first | (go_at_call 122; (with_reducible refine (more_first (CR.out _)).mono ?_); rintro e w' ⟨rfl, tq, rfl⟩) | (go_at_call_of 106 A; refine (TOA.out _ (HAX.out.more _)).mono ?_; rintro e w' ⟨rfl, rfl⟩) | (go_at_call_of 106 B; refine (TOB.out _ (HBX.out.more _)).mono ?_; rintro e w' ⟨rfl, rfl⟩))
        clear z0 c00 f00 c01 f01 c02 f02 c03 f03 z1 c10 f10 c11 f11 c12 f12 z2 c20 f20 c21 f21 z3 c30 f30 c31 f31 z4 c40 f40 c41 f41; have HFY := h_ (HFX.out.more tq); have HAY := h_ (HAX.out.more tq); have HBY := h_ (HBX.out.more tq); clear HFX HAX HBX TOA TOB CR; generalize more w1 tq = w1 at *
        refine (CNEW.out _).mono ?_
        rintro e w2 ⟨t, t1, t2, t3, t4, t5, t6, rfl, hok, hI, hlow, hlowr, hb2⟩
        have HC := h_ (HALL.out t t2 t3 t4 t5 t6 hok w2 hI ((SQ.of_sl HAY.out hlow).below hb2) ((SQ.of_sl HBY.out hlow).below hb2)); have HLOW := h_ hlow; have HTH := h_ t3; have HF3 := h_ (HFY.out.below hb2)
        have hz1 : w.heap.size + 5 <= w1.heap.size := by have := HFY.out.z; simpa using this
        have hbt := hI.ltB; clear t1 t2 t3 t4 t5 t6 hok hI hlow hlowr hb2 HAY HBY CNEW HALL HFY; obtain ⟨z0, c00, f00, c01, f01, c02, f02, c03, f03, z1, c10, f10, c11, f11, c12, f12, z2, c20, f20, c21, f21, z3, c30, f30, c31, f31, z4, c40, f40, c41, f41⟩ := HF3.out.xf8
        go_wp2_with (fail)
        clear z0 c00 f00 c01 f01 c02 f02 c03 f03 z1 c10 f10 c11 f11 c12 f12 z2 c20 f20 c21 f21 z3 c30 f30 c31 f31 z4 c40 f40 c41 f41
        refine HC.out.mono ?_
        rintro e w3 ⟨uv, ⟨xn, xd⟩, rfl, _, hI3, hf3, him⟩
        have HF4 : Hid (Fr w w3 [[.int .i64 p, .int .i64 c', .int .i64 h', .int .i64 s'], [.int .i64 (two K), .bool bv, .bool j], [.int .i64 v, .int .i64 o], [.int .i64 (a : Int), .int .i64 (b : Int)], [.int .i64 0, .int .i64 0]]) := HF3.out.frm hf3 (fun k hk => by have := HLOW.out k hk; omega) (fun k hk => by have := HLOW.out k hk; simp; omega)
        have e11 := hI3.fa; have hbt3 := hI3.ltB; have hbt0 : w1.heap.size <= t.bt := HLOW.out _ (.inl rfl)
        have n1 : ¬ t.bt = w3.heap.size := by omega
        have n2 : ¬ w3.heap.size = t.bt := by omega
        have hz3 : w.heap.size + 5 <= w3.heap.size := by have := HF4.out.z; simpa using this
        have n3 : ¬ w3.heap.size = w.heap.size + 1 + 1 + 1 + 1 := by omega
        have n4 : ¬ w.heap.size + 1 + 1 + 1 + 1 = w3.heap.size := by omega
        have n5 : ¬ t.bt = w.heap.size + 1 + 1 + 1 + 1 := by omega
        have n6 : ¬ w.heap.size + 1 + 1 + 1 + 1 = t.bt := by omega
        clear hf3 HF3 HC HLOW hI3 hbt
        rcases q with _ | ⟨cnt, at', y⟩
        · have HRR : Hid (rr = ([], 0, 0, 3)) := HW0.out
          simp only [Bool.false_or, Option.isNone_none] at e11
          clear him HW0 hy0 hy1 hy2 hi HRP HNE; obtain ⟨z0, c00, f00, c01, f01, c02, f02, c03, f03, z1, c10, f10, c11, f11, c12, f12, z2, c20, f20, c21, f21, z3, c30, f30, c31, f31, z4, c40, f40, c41, f41⟩ := HF4.out.xf8
          go_wp2_with (fail)
          refine bodyPost_ret (v := .tuple #[.slice none 0 0, .agg #[.int .i64 0, .int .i64 0], .int .i64 3]) (by simp [results, Tryz.results43, go_sem, c40, c41, z4, f40, f41]) rfl (RetIX.no HRR.out ?_)
          repeat (first | exact HF4.out.b | refine stw ?_ (by omega) | refine alw ?_ (by omega))
        · obtain ⟨cnt2, at2, b3, off3, c3, he, huv, hc3, hsq⟩ := him rfl
          injection he with he; injection he with he1 he; injection he with he2 he3; rw [HTH.out] at huv hc3 hsq; subst he1 he2 he3 huv; have HRR : Hid (rr = (L.getD at' [], xn, (xd : Int), 0)) := HW0.out
          simp only [Bool.false_or, Option.isNone_some] at e11
          have HXL : Hid ((L.getD at' []).length = h') := hsq.1.1; have HSL := h_ hsq.1; clear HW0 HRP HNE hsq; generalize L.getD at' [] = xs at *; obtain ⟨z0, c00, f00, c01, f01, c02, f02, c03, f03, z1, c10, f10, c11, f11, c12, f12, z2, c20, f20, c21, f21, z3, c30, f30, c31, f31, z4, c40, f40, c41, f41⟩ := HF4.out.xf8
          go_wp2_with (fail)
          clear z0 c00 f00 c01 f01 c02 f02 c03 f03 z1 c10 f10 c11 f11 c12 f12 z2 c20 f20 c21 f21 z3 c30 f30 c31 f31 z4 c40 f40 c41 f41; obtain ⟨X, hX⟩ : ∃ X, X = w3.alloc (.cells #[.int .i64 xn, .int .i64 (xd : Int)] 35) := ⟨_, rfl⟩; rw [<- hX]
          have y0 : X.cell? ⟨w3.heap.size, 0, none⟩ = some (.int .i64 xn) := by rw [hX]; simp [go_sem]
          have y1 : X.cell? ⟨w3.heap.size, 1, none⟩ = some (.int .i64 (xd : Int)) := by rw [hX]; simp [go_sem]
          have HF5 := h_ (HF4.out.alloc (.cells #[.int .i64 xn, .int .i64 (xd : Int)] 35)); have HS5 := h_ (HSL.out.alloc (.cells #[.int .i64 xn, .int .i64 (xd : Int)] 35)); rw [<- hX] at HF5 HS5
          have hzX : w3.heap.size < X.heap.size := by rw [hX]; simp
          clear hX HF4 HSL e11 n1 n2 n5 n6 hbt3 hbt0
          have HO : Hid ((X.alloc (.cells #[] 2)).ownsRow X.heap.size 2 1 (.slice (some ⟨X.heap.size, 0, none⟩) 0 0) 0 []) := World.ownsRow_made X #[] 0 (Nat.le_refl _) (by decide) rfl
          have HN : Hid (∀ j u, (xs.map (Value.int .i64))[j]? = some u -> (X.alloc (.cells #[] 2)).cell? ((⟨b3, off3, none⟩ : Addr).add j) = some u) := by
            intro j u hu
            have hj : j < xs.length := by have := (List.getElem?_eq_some_iff.1 hu).1; simpa using this
            obtain ⟨b, off, h, _, hc⟩ := HS5.out.2 (by have := HXL.out; omega)
            injection h with h
            have h2 : X.cell? ((⟨b3, off3, none⟩ : Addr).add j) = some u := by rw [h, Addr.add_lit, hc j (by have := HXL.out; omega), <- getD_map_int xs j hj, hu]
            exact (World.cell?_alloc_lt X _ _ (World.block_lt_of_cell? X _ h2)).trans h2
          have HGR : Hid (∀ w5 : World, ((X.alloc (.cells #[] 2)).drew).grownBy w5 (Value.ownBlock (.slice (some ⟨X.heap.size, 0, none⟩) 0 0)) -> Below X.heap.size X w5) := fun w5 h => by
            have b0 : Below X.heap.size X (X.alloc (.cells #[] 2)) := (Below.refl _ _).alloc (Nat.le_refl _) _; have b1 : Below X.heap.size X ((X.alloc (.cells #[] 2)).drew) := ⟨b0.os, b0.tape, b0.output, b0.size, b0.block⟩
            exact b1.grown h (by simp) (by simp [Value.ownBlock])
          have hxl : (xs.map (Value.int .i64)).length = h' * 1 := by rw [List.length_map, HXL.out, Nat.mul_one]
          have hx1 := ints_oneCell .i64 xs
          have hm1 : 0 + h' <= maxLen := by unfold maxLen; omega
          have hm2 : (0 + h') * 8 <= 140737488355328 := by omega
          obtain ⟨z0, c00, f00, c01, f01, c02, f02, c03, f03, z1, c10, f10, c11, f11, c12, f12, z2, c20, f20, c21, f21, z3, c30, f30, c31, f31, z4, c40, f40, c41, f41⟩ := HF5.out.xf8
          go_region_held_law (fun w' => w'.cell? ⟨w3.heap.size, 0, none⟩ = some (.int .i64 xn) /\ w'.cell? ⟨w3.heap.size, 1, none⟩ = some (.int .i64 (xd : Int)))
            (first | go_keep | (go_split_ands; exact ⟨keep_cell (by exact y0) hbA, keep_cell (by exact y1) hbA⟩))
            ((refine step_append_lies _ (by rfl) _ _ _ (by rfl) X.heap.size 2 i0 _ 1 8 Tryz.underlying26 hi hy0 hy1 hy2 rfl (by omega) (.slice (some ⟨X.heap.size, 0, none⟩) 0 0) 0 [] (by rfl) (HO.out.drew) ⟨b3, off3, none⟩ h' c3 (xs.map (Value.int .i64)) (by rfl) hxl (fun j u hu => HN.out j u hu) hx1 hh1 hm1 hm2 (by simp) (X.heap.size + 1) (by simp) ?_; intro gg cap w5 hown1 hgrow hat hlt; have hbA := HGR.out _ (by exact hgrow); have q0 := keep_cell (by exact c40) hbA; have q1 := keep_cell (by exact c41) hbA; have p0 := keep_froz (by exact f40) (by exact c40) hbA; have p1 := keep_froz (by exact f41) (by exact c41) hbA; have zq := Nat.lt_of_lt_of_le z4 hbA.size))
          have HB6 : Hid (Below w.heap.size w w5) := HF5.out.b.trans (hbA.mono (by omega))
          have HOC : Hid (OwnS w5 X.heap.size 2 (.slice (some ⟨gg, 0, none⟩) h' cap) xs) := by
            unfold Hid OwnS; rw [HXL.out]
            simpa using hown1
          have hz6 : w.heap.size <= X.heap.size := by omega
          clear hown1 hgrow hat hbA HGR HO HN HS5 HF5 hxl hx1
          go_wp2_with (fail)
          refine bodyPost_ret (v := .tuple #[.slice (some ⟨gg, 0, none⟩) h' cap, .agg #[.int .i64 xn, .int .i64 (xd : Int)], .int .i64 0]) (by simp [results, Tryz.results43, go_sem, q0, q1, p0, p1, zq]) rfl (RetIX.yes HRR.out hz6 ?_ ?_)
          · repeat (first | exact HOC.out | refine OwnS.setLow ?_ (show w.heap.size + 1 + 1 + 1 + 1 < X.heap.size from z4) _)
          · repeat (first | exact HB6.out | refine stw ?_ (by omega) | refine alw ?_ (by omega))
 ·have hsm:=ja p c h s km own other v o true
  by_cases hc3:codeL p c h s km own other v o true=3
  ·rw[hc3]at CK
   cases hm:mr with
   | false =>
     rw [hm] at hmr hmo CR
     have HWR : Hid (bmR p c h s km bv own other v o ra rb = ([], 0, 0, 2)) := by
       unfold Hid bmR
       rw [<- hmr, da (k := 2) (by rw [hmo, if_pos ⟨.inr hc3, rfl⟩]) (by decide), if_neg (by decide)]
     clear hmr hmo hcl HAL HBL hsm hc3
     go_enter Tryz.func43, Tryz.ntmps43
     go_wp2_with (fail)
     refine CK.out.mono ?_
     rintro e w1 ⟨rfl, hb1⟩
     have HFX := h_ (HF0.out.below hb1); have HAX := h_ (HA0.out.below hb1); have HBX := h_ (HB0.out.below hb1); clear CK hb1 HF0 HA0 HB0; obtain ⟨z0, c00, f00, c01, f01, c02, f02, c03, f03, z1, c10, f10, c11, f11, c12, f12, z2, c20, f20, c21, f21, z3, c30, f30, c31, f31, z4, c40, f40, c41, f41⟩ := HFX.out.xf8
     go_wp2_with ((go_at_call 122; (with_reducible refine (more_first (CR.out _)).mono ?_); rintro e w' ⟨rfl, tq, rfl⟩))
     refine bodyPost_ret (v := .tuple #[.slice none 0 0, .agg #[.int .i64 0, .int .i64 0], .int .i64 (2)]) (by simp [results, Tryz.results43, go_sem, c40, c41, z4, f40, f41]) rfl (RetIX.no HWR.out ?_)
     repeat (first | exact HFX.out.b | refine stw ?_ (by omega) | refine alw ?_ (by omega) | exact blw HFX.out.b (Nat.le_refl _) | exact blw (blw HFX.out.b (Nat.le_refl _)) (Nat.le_refl _))
   | true =>
     rw [hm] at hmr hmo CR
     have HWR : Hid (bmR p c h s km bv own other v o ra rb = ([], 0, 0, 3)) := by
       unfold Hid bmR
       rw [<- hmr, da (k := 3) hc3 (by decide), if_neg (by decide)]
     clear hmr hmo hcl HAL HBL hsm hc3
     go_enter Tryz.func43, Tryz.ntmps43
     go_wp2_with (fail)
     refine CK.out.mono ?_
     rintro e w1 ⟨rfl, hb1⟩
     have HFX := h_ (HF0.out.below hb1); have HAX := h_ (HA0.out.below hb1); have HBX := h_ (HB0.out.below hb1); clear CK hb1 HF0 HA0 HB0; obtain ⟨z0, c00, f00, c01, f01, c02, f02, c03, f03, z1, c10, f10, c11, f11, c12, f12, z2, c20, f20, c21, f21, z3, c30, f30, c31, f31, z4, c40, f40, c41, f41⟩ := HFX.out.xf8
     go_wp2_with ((go_at_call 122; (with_reducible refine (more_first (CR.out _)).mono ?_); rintro e w' ⟨rfl, tq, rfl⟩))
     refine bodyPost_ret (v := .tuple #[.slice none 0 0, .agg #[.int .i64 0, .int .i64 0], .int .i64 (3)]) (by simp [results, Tryz.results43, go_sem, c40, c41, z4, f40, f41]) rfl (RetIX.no HWR.out ?_)
     repeat (first | exact HFX.out.b | refine stw ?_ (by omega) | refine alw ?_ (by omega) | exact blw HFX.out.b (Nat.le_refl _) | exact blw (blw HFX.out.b (Nat.le_refl _)) (Nat.le_refl _))
  ·have HWR:Hid (bmR p c h s km bv own other v o ra rb=([],0,0,codeL p c h s km own other v o true)):=by
    unfold Hid bmR
    rw[<- hmr,da (k:=codeL p c h s km own other v o true) (by rw[hmo,if_neg (fun hx=>by rcases hx.1 with hx|hx<;>contradiction)]) hcl,if_neg hcl]
   generalize codeL p c h s km own other v o true=kk at *
   have b0:(kk != 0)=true:=by simp[hcl]
   have b1:(kk == 0)=false:=by simp[hcl]
   have b3:(kk == 3)=false:=by simp[hc3]
   clear hmr hmo hcl HAL HBL hsm hc3 CR
   go_enter Tryz.func43,Tryz.ntmps43
   go_wp2_with (fail)
   refine CK.out.mono ?_
   rintro e w1 ⟨rfl,hb1⟩
   have HFX:=h_ (HF0.out.below hb1);have HAX:=h_ (HA0.out.below hb1);have HBX:=h_ (HB0.out.below hb1);clear CK hb1 HF0 HA0 HB0;obtain⟨z0,c00,f00,c01,f01,c02,f02,c03,f03,z1,c10,f10,c11,f11,c12,f12,z2,c20,f20,c21,f21,z3,c30,f30,c31,f31,z4,c40,f40,c41,f41⟩:=HFX.out.xf8
   go_wp2_with (fail)
   refine bodyPost_ret (v:=.tuple #[.slice none 0 0,.agg #[.int .i64 0,.int .i64 0],.int .i64 (kk)]) (by simp[results,Tryz.results43,go_sem,c40,c41,z4,f40,f41]) rfl (RetIX.no HWR.out ?_)
   repeat (first|exact HFX.out.b|refine stw ?_ (by omega)|refine alw ?_ (by omega)|exact blw HFX.out.b (Nat.le_refl _)|exact blw (blw HFX.out.b (Nat.le_refl _)) (Nat.le_refl _))
end Go.Proofs.YtkaiilmgemaljaaGreat

/- Part of one proof. There are no conditions. -/
import Derived.Test.YtkaiilmgemaljaaGreatRM3
set_option maxHeartbeats 0
set_option linter.unusedVariables false
set_option linter.unusedSimpArgs false
namespace Go.Proofs.YtkaiilmgemaljaaGreat
open Go.RowKit Mo
def cbV (c:Cb):Value:=.agg #[.int .i64 c.1,.int .i64 c.2]
theorem swp_one {v o:Int} (h:o=1):swp (v,o)=(v,2):=by unfold swp;rw[if_pos h]
theorem swp_two {v o:Int} (h:o=2):swp (v,o)=(v,1):=by unfold swp;rw[if_neg (by show ¬o=1;omega),if_pos h]
theorem swp_no {v o:Int} (h1:o≠1) (h2:o≠2):swp (v,o)=(v,o):=by unfold swp;rw[if_neg h1,if_neg h2]
theorem eJ (v o:Int) (w:World):Calls Tryz.prog 38 #[.agg #[.int .i64 v,.int .i64 o]] w fun e w'=>e = .returned (cbV (swp (v,o)))/\Below w.heap.size w w':=by
 by_cases h1:o=1
 focus
  have H:=h_ (swp_one (v:=v) h1)
  have e1:inB 1 1 2=true:=rfl;subst h1
  refine ?ze
 rotate_left
 focus
  by_cases h2:o=2
  focus
   have H:=h_ (swp_two (v:=v) h2)
   have e1:inB 2 1 2=true:=rfl;subst h2;clear h1
   refine ?zf
  rotate_left
  focus
   have H:=h_ (swp_no (v:=v) h1 h2)
   have e1:inB o 1 2=false:=bF (by omega)
   clear h1 h2
   refine ?zd
 rotate_left 2
 case' zd|ze|zf=>
  go_enter Tryz.func38,Tryz.ntmps38
  go_wp2_with (go_at_call 116;refine (within_any _ _ _ _).mono ?_;rintro e w' ⟨rfl,rfl⟩)
 case' zd=>
  refine bodyPost_ret (v:=.agg #[.int .i64 v,.int .i64 o]) (by simp[results,Tryz.results38,go_sem]) rfl ?_
 case' ze=>
  refine bodyPost_ret (v:=.agg #[.int .i64 v,.int .i64 2]) (by simp[results,Tryz.results38,go_sem]) rfl ?_
 case' zf=>
  refine bodyPost_ret (v:=.agg #[.int .i64 v,.int .i64 1]) (by simp[results,Tryz.results38,go_sem]) rfl ?_
 case zd|ze|zf=>
  refine⟨by rw[H.out]<;>rfl,?_⟩
  repeat (first|exact Below.refl _ _|refine Below.alloc ?_ (by simp) _|refine Below.setCell ?_ (by simp) _)
theorem j7 (v o:Int) (w:World):Calls Tryz.prog 202 #[.agg #[.int .i64 v,.int .i64 o]] w fun e w'=>e = .returned (cbV (swp (v,o)))/\Below w.heap.size w w':=by
 by_cases h1:o=1
 focus
  have H:=h_ (swp_one (v:=v) h1)
  have b1:(o == 1)=true:=by simp[h1]
  clear h1
  refine ?zd
 rotate_left
 focus
  have b1:(o == 1)=false:=by simp[h1]
  by_cases h2:o=2
  focus
   have H:=h_ (swp_two (v:=v) h2)
   have b2:(o == 2)=true:=by simp[h2]
   clear h1 h2
   refine ?ze
  rotate_left
  focus
   have H:=h_ (swp_no (v:=v) h1 h2)
   have b2:(o == 2)=false:=by simp[h2]
   clear h1 h2
   refine ?zf
 rotate_left 2
 case' zd|ze|zf=>
  go_enter Tryz.func202,Tryz.ntmps202
  go_wp2_with (fail)
 case' zd=>
  refine bodyPost_ret (v:=.agg #[.int .i64 v,.int .i64 2]) (by simp[results,Tryz.results202,go_sem]) rfl ?_
 case' ze=>
  refine bodyPost_ret (v:=.agg #[.int .i64 v,.int .i64 1]) (by simp[results,Tryz.results202,go_sem]) rfl ?_
 case' zf=>
  refine bodyPost_ret (v:=.agg #[.int .i64 v,.int .i64 o]) (by simp[results,Tryz.results202,go_sem]) rfl ?_
 case zd|ze|zf=>
  refine⟨by rw[H.out]<;>rfl,?_⟩
  repeat (first|exact Below.refl _ _|refine Below.alloc ?_ (by simp) _|refine Below.setCell ?_ (by simp) _)
theorem may_yes {m v o:Int} {b:Bool} (h1:o≠2) (h2:2*v<=m):may ⟨m,b⟩ (v,o)=true:=decide_eq_true ⟨h1,h2⟩
theorem may_no1 {m v o:Int} {b:Bool} (h1:o=2):may ⟨m,b⟩ (v,o)=false:=decide_eq_false fun h=>h.1 h1
theorem may_no2 {m v o:Int} {b:Bool} (h2:¬2*v<=m):may ⟨m,b⟩ (v,o)=false:=decide_eq_false fun h=>h2 h.2
theorem ay (m:Int) (b j:Bool) (v o:Int) (w:World) (hv1:0<=v) (hv2:v<=100000):
  Calls Tryz.prog 120 #[.agg #[.int .i64 m,.bool b,.bool j],.agg #[.int .i64 v,.int .i64 o]] w fun e w'=>e = .returned (.bool (may ⟨m,b⟩ (v,o)))/\Below w.heap.size w w':=by
 have HB:Hid (Below w.heap.size w ((w.alloc (.cells #[.int .i64 m,.bool b,.bool j] 53)).alloc (.cells #[.int .i64 v,.int .i64 o] 55))):=((Below.refl _ _).alloc (Nat.le_refl _) _).alloc (by simp) _
 by_cases h1:o=2
 focus
  have H:=h_ (may_no1 (m:=m) (v:=v) (b:=b) h1)
  have b1:(o != 2)=false:=by simp[h1]
  refine ?za
 rotate_left
 focus
  have b1:(o != 2)=true:=by simp[h1]
  by_cases h2:2*v<=m
  focus
   have H:=h_ (may_yes (b:=b) h1 h2)
   refine ?zb
  rotate_left
  focus
   have H:=h_ (may_no2 (b:=b) (o:=o) h2)
   refine ?zc
 rotate_left 2
 case za|zb|zc=>
  clear h1
  go_enter Tryz.func120,Tryz.ntmps120
  go_wp2_with (fail)
  go_ret
  exact⟨by rw[H.out]<;>rfl,HB.out⟩
theorem aO (m:Int) (b j:Bool) (v o:Int) (w:World) (hv1:0<=v) (hv2:v<=100000):
  Calls Tryz.prog 194 #[.agg #[.int .i64 m,.bool b,.bool j],.agg #[.int .i64 v,.int .i64 o]] w fun e w'=>e = .returned (.bool (may ⟨m,b⟩ (v,o)))/\Below w.heap.size w w':=by
 have HB:Hid (Below w.heap.size w ((w.alloc (.cells #[.int .i64 m,.bool b,.bool j] 53)).alloc (.cells #[.int .i64 v,.int .i64 o] 55))):=((Below.refl _ _).alloc (Nat.le_refl _) _).alloc (by simp) _
 by_cases h1:o=2
 focus
  have H:=h_ (may_no1 (m:=m) (v:=v) (b:=b) h1)
  have b1:(o != 2)=false:=by simp[h1]
  refine ?za
 rotate_left
 focus
  have b1:(o != 2)=true:=by simp[h1]
  by_cases h2:2*v<=m
  focus
   have H:=h_ (may_yes (b:=b) h1 h2)
   refine ?zb
  rotate_left
  focus
   have H:=h_ (may_no2 (b:=b) (o:=o) h2)
   refine ?zc
 rotate_left 2
 case za|zb|zc=>
  clear h1
  go_enter Tryz.func194,Tryz.ntmps194
  go_wp2_with (fail)
  go_ret
  exact⟨by rw[H.out]<;>rfl,HB.out⟩
def posA (r:Ru) (c:Cb) (a:Int):Bool:=if a=0 then true else if a=1\/a=2 then may r c else if a=3 then bvr r c else if a=4 then rcn r c else false
theorem posA_0 (r:Ru) (c:Cb):posA r c 0=true:=rfl
theorem posA_1 (r:Ru) (c:Cb):posA r c 1=may r c:=rfl
theorem posA_2 (r:Ru) (c:Cb):posA r c 2=may r c:=rfl
theorem jE (r:Ru) (c:Cb):posA r c 3=bvr r c:=rfl
theorem jD (r:Ru) (c:Cb):posA r c 4=rcn r c:=rfl
theorem posA_no {r:Ru} {c:Cb} {a:Int} (h:¬(0<=a/\a<=4)):posA r c a=false:=by
 unfold posA
 rw[if_neg (by omega),if_neg (by omega),if_neg (by omega),if_neg (by omega)]
theorem di (m:Int) (b j:Bool) (v o a:Int) (w:World) (hv1:0<=v) (hv2:v<=100000):
  Calls Tryz.prog 128 #[.agg #[.int .i64 m,.bool b,.bool j],.agg #[.int .i64 v,.int .i64 o],.int .i64 a] w fun e w'=>e = .returned (.bool (posA ⟨m,b⟩ (v,o) a))/\Below w.heap.size w w':=by
 have HB:Hid (Below w.heap.size w ((w.alloc (.cells #[.int .i64 m,.bool b,.bool j] 53)).alloc (.cells #[.int .i64 v,.int .i64 o] 55))):=((Below.refl _ _).alloc (Nat.le_refl _) _).alloc (by simp) _
 have hcase:a=0\/a=1\/a=2\/a=3\/a=4\/¬(0<=a/\a<=4):=by omega
 rcases hcase with rfl|rfl|rfl|rfl|rfl|hn
 focus
  have H:=h_ (posA_0 ⟨m,b⟩ (v,o))
  refine ?zb
 rotate_left
 focus
  have H:=h_ (posA_1 ⟨m,b⟩ (v,o))
  refine ?zc
 rotate_left
 focus
  have H:=h_ (posA_2 ⟨m,b⟩ (v,o))
  refine ?zd
 rotate_left
 ·cases hm:may ⟨m,b⟩ (v,o) with
  | false =>
    have H : Hid (posA ⟨m, b⟩ (v, o) 3 = false) := by unfold Hid; rw [jE]; unfold bvr; rw [hm]; rfl
    go_enter Tryz.func128, Tryz.ntmps128
    go_wp2_with (go_at_call 120; refine (more_first (ay _ _ _ _ _ _ hv1 hv2)).mono ?_; rintro e w' ⟨rfl, t, rfl⟩)
    go_ret
    exact ⟨by rw [H.out] <;> rfl, by first | exact HB.out | exact HB.out.trans ((aa _ _).mono HB.out.size)⟩
  | true =>
    by_cases h4 : 4 * v <= m
    · have H : Hid (posA ⟨m, b⟩ (v, o) 3 = b) := by unfold Hid; rw [jE]; unfold bvr; rw [hm, decide_eq_true (by exact h4)]; cases b <;> rfl
      cases b
      ·
        go_enter Tryz.func128, Tryz.ntmps128
        go_wp2_with (go_at_call 120; refine (more_first (ay _ _ _ _ _ _ hv1 hv2)).mono ?_; rintro e w' ⟨rfl, t, rfl⟩)
        go_ret
        exact ⟨by rw [H.out] <;> rfl, by first | exact HB.out | exact HB.out.trans ((aa _ _).mono HB.out.size)⟩
      ·
        go_enter Tryz.func128, Tryz.ntmps128
        go_wp2_with (go_at_call 120; refine (more_first (ay _ _ _ _ _ _ hv1 hv2)).mono ?_; rintro e w' ⟨rfl, t, rfl⟩)
        go_ret
        exact ⟨by rw [H.out] <;> rfl, by first | exact HB.out | exact HB.out.trans ((aa _ _).mono HB.out.size)⟩
    · have H : Hid (posA ⟨m, b⟩ (v, o) 3 = false) := by unfold Hid; rw [jE]; unfold bvr; rw [hm, decide_eq_false (by exact h4)]; cases b <;> rfl
      have d4 := decide_eq_false h4
      cases b
      ·
        go_enter Tryz.func128, Tryz.ntmps128
        go_wp2_with (go_at_call 120; refine (more_first (ay _ _ _ _ _ _ hv1 hv2)).mono ?_; rintro e w' ⟨rfl, t, rfl⟩)
        go_ret
        exact ⟨by rw [H.out] <;> rfl, by first | exact HB.out | exact HB.out.trans ((aa _ _).mono HB.out.size)⟩
      ·
        go_enter Tryz.func128, Tryz.ntmps128
        go_wp2_with (go_at_call 120; refine (more_first (ay _ _ _ _ _ _ hv1 hv2)).mono ?_; rintro e w' ⟨rfl, t, rfl⟩)
        go_ret
        exact ⟨by rw [H.out] <;> rfl, by first | exact HB.out | exact HB.out.trans ((aa _ _).mono HB.out.size)⟩
 ·cases hm:may ⟨m,b⟩ (v,o) with
  | false =>
    have H : Hid (posA ⟨m, b⟩ (v, o) 4 = false) := by unfold Hid; rw [jD]; unfold rcn; rw [hm]; rfl
    go_enter Tryz.func128, Tryz.ntmps128
    go_wp2_with (go_at_call 120; refine (more_first (ay _ _ _ _ _ _ hv1 hv2)).mono ?_; rintro e w' ⟨rfl, t, rfl⟩)
    go_ret
    exact ⟨by rw [H.out] <;> rfl, by first | exact HB.out | exact HB.out.trans ((aa _ _).mono HB.out.size)⟩
  | true =>
    by_cases h4 : 8 * v <= m
    · have H : Hid (posA ⟨m, b⟩ (v, o) 4 = b) := by unfold Hid; rw [jD]; unfold rcn; rw [hm, decide_eq_true (by exact h4)]; cases b <;> rfl
      cases b
      ·
        go_enter Tryz.func128, Tryz.ntmps128
        go_wp2_with (go_at_call 120; refine (more_first (ay _ _ _ _ _ _ hv1 hv2)).mono ?_; rintro e w' ⟨rfl, t, rfl⟩)
        go_ret
        exact ⟨by rw [H.out] <;> rfl, by first | exact HB.out | exact HB.out.trans ((aa _ _).mono HB.out.size)⟩
      ·
        go_enter Tryz.func128, Tryz.ntmps128
        go_wp2_with (go_at_call 120; refine (more_first (ay _ _ _ _ _ _ hv1 hv2)).mono ?_; rintro e w' ⟨rfl, t, rfl⟩)
        go_ret
        exact ⟨by rw [H.out] <;> rfl, by first | exact HB.out | exact HB.out.trans ((aa _ _).mono HB.out.size)⟩
    · have H : Hid (posA ⟨m, b⟩ (v, o) 4 = false) := by unfold Hid; rw [jD]; unfold rcn; rw [hm, decide_eq_false (by exact h4)]; cases b <;> rfl
      have d4 := decide_eq_false h4
      cases b
      ·
        go_enter Tryz.func128, Tryz.ntmps128
        go_wp2_with (go_at_call 120; refine (more_first (ay _ _ _ _ _ _ hv1 hv2)).mono ?_; rintro e w' ⟨rfl, t, rfl⟩)
        go_ret
        exact ⟨by rw [H.out] <;> rfl, by first | exact HB.out | exact HB.out.trans ((aa _ _).mono HB.out.size)⟩
      ·
        go_enter Tryz.func128, Tryz.ntmps128
        go_wp2_with (go_at_call 120; refine (more_first (ay _ _ _ _ _ _ hv1 hv2)).mono ?_; rintro e w' ⟨rfl, t, rfl⟩)
        go_ret
        exact ⟨by rw [H.out] <;> rfl, by first | exact HB.out | exact HB.out.trans ((aa _ _).mono HB.out.size)⟩
 focus
  have H:=h_ (posA_no (r:=⟨m,b⟩) (c:=(v,o)) hn)
  have a0 : (a == 0) = false := by have : a ≠ 0 := by omega
                                   simpa using this
  have a1 : (a == 1) = false := by have : a ≠ 1 := by omega
                                   simpa using this
  have a2 : (a == 2) = false := by have : a ≠ 2 := by omega
                                   simpa using this
  have a3 : (a == 3) = false := by have : a ≠ 3 := by omega
                                   simpa using this
  have a4 : (a == 4) = false := by have : a ≠ 4 := by omega
                                   simpa using this
  clear hn
  refine ?za
 rotate_left
 case za|zb|zc|zd=>
  go_enter Tryz.func128,Tryz.ntmps128
  go_wp2_with (go_at_call 120;refine (more_first (ay _ _ _ _ _ _ hv1 hv2)).mono ?_;rintro e w' ⟨rfl,t,rfl⟩)
  go_ret
  exact⟨by rw[H.out]<;>rfl,by first|exact HB.out|exact HB.out.trans ((aa _ _).mono HB.out.size)⟩
theorem eE (m:Int) (b j:Bool) (v o a:Int) (w:World) (hv1:0<=v) (hv2:v<=100000):
  Calls Tryz.prog 232 #[.agg #[.int .i64 m,.bool b,.bool j],.agg #[.int .i64 v,.int .i64 o],.int .i64 a] w fun e w'=>e = .returned (.bool (posA ⟨m,b⟩ (v,o) a))/\Below w.heap.size w w':=by
 have HB:Hid (Below w.heap.size w ((w.alloc (.cells #[.int .i64 m,.bool b,.bool j] 53)).alloc (.cells #[.int .i64 v,.int .i64 o] 55))):=((Below.refl _ _).alloc (Nat.le_refl _) _).alloc (by simp) _
 have hcase:a=0\/a=1\/a=2\/a=3\/a=4\/¬(0<=a/\a<=4):=by omega
 rcases hcase with rfl|rfl|rfl|rfl|rfl|hn
 focus
  have H:=h_ (posA_0 ⟨m,b⟩ (v,o))
  refine ?zb
 rotate_left
 focus
  have H:=h_ (posA_1 ⟨m,b⟩ (v,o))
  refine ?zc
 rotate_left
 focus
  have H:=h_ (posA_2 ⟨m,b⟩ (v,o))
  refine ?zd
 rotate_left
 ·cases hm:may ⟨m,b⟩ (v,o) with
  | false =>
    have H : Hid (posA ⟨m, b⟩ (v, o) 3 = false) := by unfold Hid; rw [jE]; unfold bvr; rw [hm]; rfl
    go_enter Tryz.func232, Tryz.ntmps232
    go_wp2_with (go_at_call 194; refine (more_first (aO _ _ _ _ _ _ hv1 hv2)).mono ?_; rintro e w' ⟨rfl, t, rfl⟩)
    go_ret
    exact ⟨by rw [H.out] <;> rfl, by first | exact HB.out | exact HB.out.trans ((aa _ _).mono HB.out.size)⟩
  | true =>
    by_cases h4 : 4 * v <= m
    · have H : Hid (posA ⟨m, b⟩ (v, o) 3 = b) := by unfold Hid; rw [jE]; unfold bvr; rw [hm, decide_eq_true (by exact h4)]; cases b <;> rfl
      cases b
      ·
        go_enter Tryz.func232, Tryz.ntmps232
        go_wp2_with (go_at_call 194; refine (more_first (aO _ _ _ _ _ _ hv1 hv2)).mono ?_; rintro e w' ⟨rfl, t, rfl⟩)
        go_ret
        exact ⟨by rw [H.out] <;> rfl, by first | exact HB.out | exact HB.out.trans ((aa _ _).mono HB.out.size)⟩
      ·
        go_enter Tryz.func232, Tryz.ntmps232
        go_wp2_with (go_at_call 194; refine (more_first (aO _ _ _ _ _ _ hv1 hv2)).mono ?_; rintro e w' ⟨rfl, t, rfl⟩)
        go_ret
        exact ⟨by rw [H.out] <;> rfl, by first | exact HB.out | exact HB.out.trans ((aa _ _).mono HB.out.size)⟩
    · have H : Hid (posA ⟨m, b⟩ (v, o) 3 = false) := by unfold Hid; rw [jE]; unfold bvr; rw [hm, decide_eq_false (by exact h4)]; cases b <;> rfl
      have d4 := decide_eq_false h4
      cases b
      ·
        go_enter Tryz.func232, Tryz.ntmps232
        go_wp2_with (go_at_call 194; refine (more_first (aO _ _ _ _ _ _ hv1 hv2)).mono ?_; rintro e w' ⟨rfl, t, rfl⟩)
        go_ret
        exact ⟨by rw [H.out] <;> rfl, by first | exact HB.out | exact HB.out.trans ((aa _ _).mono HB.out.size)⟩
      ·
        go_enter Tryz.func232, Tryz.ntmps232
        go_wp2_with (go_at_call 194; refine (more_first (aO _ _ _ _ _ _ hv1 hv2)).mono ?_; rintro e w' ⟨rfl, t, rfl⟩)
        go_ret
        exact ⟨by rw [H.out] <;> rfl, by first | exact HB.out | exact HB.out.trans ((aa _ _).mono HB.out.size)⟩
 ·cases hm:may ⟨m,b⟩ (v,o) with
  | false =>
    have H : Hid (posA ⟨m, b⟩ (v, o) 4 = false) := by unfold Hid; rw [jD]; unfold rcn; rw [hm]; rfl
    go_enter Tryz.func232, Tryz.ntmps232
    go_wp2_with (go_at_call 194; refine (more_first (aO _ _ _ _ _ _ hv1 hv2)).mono ?_; rintro e w' ⟨rfl, t, rfl⟩)
    go_ret
    exact ⟨by rw [H.out] <;> rfl, by first | exact HB.out | exact HB.out.trans ((aa _ _).mono HB.out.size)⟩
  | true =>
    by_cases h4 : 8 * v <= m
    · have H : Hid (posA ⟨m, b⟩ (v, o) 4 = b) := by unfold Hid; rw [jD]; unfold rcn; rw [hm, decide_eq_true (by exact h4)]; cases b <;> rfl
      cases b
      ·
        go_enter Tryz.func232, Tryz.ntmps232
        go_wp2_with (go_at_call 194; refine (more_first (aO _ _ _ _ _ _ hv1 hv2)).mono ?_; rintro e w' ⟨rfl, t, rfl⟩)
        go_ret
        exact ⟨by rw [H.out] <;> rfl, by first | exact HB.out | exact HB.out.trans ((aa _ _).mono HB.out.size)⟩
      ·
        go_enter Tryz.func232, Tryz.ntmps232
        go_wp2_with (go_at_call 194; refine (more_first (aO _ _ _ _ _ _ hv1 hv2)).mono ?_; rintro e w' ⟨rfl, t, rfl⟩)
        go_ret
        exact ⟨by rw [H.out] <;> rfl, by first | exact HB.out | exact HB.out.trans ((aa _ _).mono HB.out.size)⟩
    · have H : Hid (posA ⟨m, b⟩ (v, o) 4 = false) := by unfold Hid; rw [jD]; unfold rcn; rw [hm, decide_eq_false (by exact h4)]; cases b <;> rfl
      have d4 := decide_eq_false h4
      cases b
      ·
        go_enter Tryz.func232, Tryz.ntmps232
        go_wp2_with (go_at_call 194; refine (more_first (aO _ _ _ _ _ _ hv1 hv2)).mono ?_; rintro e w' ⟨rfl, t, rfl⟩)
        go_ret
        exact ⟨by rw [H.out] <;> rfl, by first | exact HB.out | exact HB.out.trans ((aa _ _).mono HB.out.size)⟩
      ·
        go_enter Tryz.func232, Tryz.ntmps232
        go_wp2_with (go_at_call 194; refine (more_first (aO _ _ _ _ _ _ hv1 hv2)).mono ?_; rintro e w' ⟨rfl, t, rfl⟩)
        go_ret
        exact ⟨by rw [H.out] <;> rfl, by first | exact HB.out | exact HB.out.trans ((aa _ _).mono HB.out.size)⟩
 focus
  have H:=h_ (posA_no (r:=⟨m,b⟩) (c:=(v,o)) hn)
  have a0 : (a == 0) = false := by have : a ≠ 0 := by omega
                                   simpa using this
  have a1 : (a == 1) = false := by have : a ≠ 1 := by omega
                                   simpa using this
  have a2 : (a == 2) = false := by have : a ≠ 2 := by omega
                                   simpa using this
  have a3 : (a == 3) = false := by have : a ≠ 3 := by omega
                                   simpa using this
  have a4 : (a == 4) = false := by have : a ≠ 4 := by omega
                                   simpa using this
  clear hn
  refine ?za
 rotate_left
 case za|zb|zc|zd=>
  go_enter Tryz.func232,Tryz.ntmps232
  go_wp2_with (go_at_call 194;refine (more_first (aO _ _ _ _ _ _ hv1 hv2)).mono ?_;rintro e w' ⟨rfl,t,rfl⟩)
  go_ret
  exact⟨by rw[H.out]<;>rfl,by first|exact HB.out|exact HB.out.trans ((aa _ _).mono HB.out.size)⟩
def aft (c:Cb) (a:Int):Cb:=if a=1 then (2*c.1,2) else if a=2 then (0,0) else if a=3 then (4*c.1,2) else if a=4 then (8*c.1,2) else c
theorem aft_no {c:Cb} {a:Int} (h:¬(1<=a/\a<=4)):aft c a=c:=by
 unfold aft
 rw[if_neg (by omega),if_neg (by omega),if_neg (by omega),if_neg (by omega)]
theorem d9 (v o a:Int) (w:World) (hv1:0<=v) (hv2:v<=100000):
  Calls Tryz.prog 197 #[.agg #[.int .i64 v,.int .i64 o],.int .i64 a] w fun e w'=>e = .returned (cbV (aft (v,o) a))/\Below w.heap.size w w':=by
 have hcase:a=1\/a=2\/a=3\/a=4\/¬(1<=a/\a<=4):=by omega
 rcases hcase with rfl|rfl|rfl|rfl|hn
 focus
  refine ?zg
 rotate_left
 focus
  refine ?zh
 rotate_left
 focus
  refine ?zi
 rotate_left
 focus
  refine ?zj
 rotate_left
 focus
  have H:=h_ (aft_no (c:=(v,o)) hn)
  have a1 : (a == 1) = false := by have : a ≠ 1 := by omega
                                   simpa using this
  have a2 : (a == 2) = false := by have : a ≠ 2 := by omega
                                   simpa using this
  have a3 : (a == 3) = false := by have : a ≠ 3 := by omega
                                   simpa using this
  have a4 : (a == 4) = false := by have : a ≠ 4 := by omega
                                   simpa using this
  clear hn
  refine ?zf
 rotate_left
 case' zf|zg|zh|zi|zj=>
  go_enter Tryz.func197,Tryz.ntmps197
  go_wp2_with (fail)
 case' zf=>
  refine bodyPost_ret (v:=.agg #[.int .i64 (v),.int .i64 (o)]) (by simp[results,Tryz.results197,go_sem]) rfl ?_
 case' zg=>
  refine bodyPost_ret (v:=.agg #[.int .i64 (2*v),.int .i64 (2)]) (by simp[results,Tryz.results197,go_sem]) rfl ?_
 case' zh=>
  refine bodyPost_ret (v:=.agg #[.int .i64 (0),.int .i64 (0)]) (by simp[results,Tryz.results197,go_sem]) rfl ?_
 case' zi=>
  refine bodyPost_ret (v:=.agg #[.int .i64 (4*v),.int .i64 (2)]) (by simp[results,Tryz.results197,go_sem]) rfl ?_
 case' zj=>
  refine bodyPost_ret (v:=.agg #[.int .i64 (8*v),.int .i64 (2)]) (by simp[results,Tryz.results197,go_sem]) rfl ?_
 case zf|zg|zh|zi|zj=>
  refine⟨by first|rfl|(rw[H.out]<;>rfl),?_⟩
  repeat (first|exact Below.refl _ _|refine Below.alloc ?_ (by simp) _|refine Below.setCell ?_ (by simp) _)
theorem whole_any (n:Int) (w:World):Calls Tryz.prog 132 #[.int .i64 n] w fun e w'=>e = .returned (.agg #[.int .i64 n,.int .i64 0])/\Below w.heap.size w w':=by
 go_enter Tryz.func132,Tryz.ntmps132
 go_wp2_with (fail)
 refine bodyPost_ret (v:=.agg #[.int .i64 n,.int .i64 0]) (by simp[results,Tryz.results132,go_sem]) rfl ?_
 refine⟨rfl,?_⟩
 repeat (first|exact Below.refl _ _|refine Below.alloc ?_ (by simp) _|refine Below.setCell ?_ (by simp) _)
theorem l17Neg_any (n d:Int) (w:World) (h1 : -2000000000000000000<=n) (h2:n<=2000000000000000000):Calls Tryz.prog 201 #[.agg #[.int .i64 n,.int .i64 d]] w fun e w'=>e = .returned (.agg #[.int .i64 (-n),.int .i64 d])/\Below w.heap.size w w':=by
 go_enter Tryz.func201,Tryz.ntmps201
 go_wp2_with (fail)
 refine bodyPost_ret (v:=.agg #[.int .i64 (-n),.int .i64 d]) (by simp[results,Tryz.results201,go_sem]) rfl ?_
 refine⟨rfl,?_⟩
 repeat (first|exact Below.refl _ _|refine Below.alloc ?_ (by simp) _|refine Below.setCell ?_ (by simp) _)
end Go.Proofs.YtkaiilmgemaljaaGreat

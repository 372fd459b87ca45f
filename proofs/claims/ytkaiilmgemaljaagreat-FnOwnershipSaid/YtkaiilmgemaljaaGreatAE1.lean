/- Part of one proof. There are no conditions. -/
import Derived.Test.YtkaiilmgemaljaaGreatAU1
import Derived.Test.YtkaiilmgemaljaaGreatAZp
import Derived.Test.YtkaiilmgemaljaaGreatAZn
set_option linter.unusedVariables false
set_option linter.unusedSimpArgs false
namespace Go.Proofs.YtkaiilmgemaljaaGreat.Ra
open Go.Proofs.YtkaiilmgemaljaaGreat.Ex Go.Proofs.YtkaiilmgemaljaaGreat.Ps
theorem bestS_all {B:Int} {f:List Int→Option E} {l:List (List Int)} {t:Nat×Nat×E} (h:bestS B f l=some t):∀q∈l,∃x,f q=some x:=by
 induction l using zaH generalizing t with
 | nil=>intro q hq;cases hq
 | snoc l q ih =>
   rw [zaN] at h
   cases hs : bestS B f l with
   | none => rw [hs] at h; cases h
   | some u =>
     rw [hs] at h
     cases hf : f q with
     | none => rw [hf] at h; cases h
     | some x =>
       intro p hp
       rcases List.mem_append.1 hp with hp | hp
       · exact ih hs p hp
       · rw [List.mem_singleton] at hp; subst hp; exact ⟨x, hf⟩
theorem allS_get {g:Nat×Nat→Option E} {l:List (Nat×Nat)} {t:List E} (h:allS g l=some t):∀i,i<l.length→g (l.getD i (0,0))=some (t.getD i zbv):=by
 induction l using zaH generalizing t with
 | nil=>intro i hi;simp at hi
 | snoc l q ih =>
   rw [zbu] at h
   cases hs : allS g l with
   | none => rw [hs] at h; cases h
   | some u =>
     rw [hs] at h
     cases hf : g q with
     | none => rw [hf] at h; cases h
     | some x =>
       rw [hf] at h
       simp only [Option.bind_some, Option.map_some, Option.some.injEq] at h
       subst h; have hl := zdQ hs
       intro i hi
       by_cases e : i < l.length
       · rw [zbe _ _ _ e, zbe _ _ _ (by omega)]; exact ih hs i e
       · have : i = l.length := by simp at hi; omega
         subst this
         rw [zbf _ _ _ (Nat.le_refl _), zbf _ _ _ (by omega), hl, Nat.sub_self]
         exact hf
theorem zip_mem {l:List (Nat×Nat)} {xs:List E} {P:E→Prop} (h:∀x∈xs,P x):∀rx∈l.zip xs,P rx.2:=fun _ hq=>h _ (List.of_mem_zip hq).2
theorem zfP:∀xs:List E,∃M,∀x∈xs,x.depth≤M
 | []=>⟨0,fun x h=>by cases h⟩
 | a :: l => by
   obtain ⟨M, h⟩ := zfP l
   refine ⟨max M a.depth, fun x hx => ?_⟩
   rcases List.mem_cons.1 hx with rfl | hx
   · omega
   · have := h x hx; omega
theorem mean_av {B:Int} (hB:1≤B) {rs:List (Nat×Nat)} {xs:List E} {x:E} {M:Nat} (h:meanE B rs xs=some x) (hm:∀y∈xs,y.depth≤M):x.depth≤M+1∧av B (M+1) x=avS B M (rs.zip xs):=by
 unfold meanE at h
 cases hs:sumE B (rs.zip xs) with
 | none=>rw[hs]at h;cases h
 | some t =>
   rw [hs, Option.bind_some] at h; obtain ⟨h1, h2⟩ := sum_av (M := M) hB hs (zip_mem hm)
   obtain ⟨k1, k2⟩ := av_mk (M := M + 1) hB h (by omega)
   refine ⟨by omega, ?_⟩
   rw [k2, ← h2, show M + 1 - (t.depth + 1) = M - t.depth by omega]
   rfl
end Go.Proofs.YtkaiilmgemaljaaGreat.Ra
namespace Go.Proofs.YtkaiilmgemaljaaGreat.Ra
open Go.Proofs.YtkaiilmgemaljaaGreat.Ex Go.Proofs.YtkaiilmgemaljaaGreat.Ps
def LE (B:Int) (x y:E):Prop:=x.num*pw B y.depth≤y.num*pw B x.depth
theorem le_lt {B:Int} {x y:E}:LE B x y↔ltE B y x=false:=by
 unfold LE ltE;rw[decide_eq_false_iff_not]
 omega
theorem lt_le {B:Int} {x y:E} (h:ltE B x y=true):LE B x y:=by
 have:=of_decide_eq_true h;unfold LE
 omega
theorem le_av {B:Int} (hB:1≤B) {x y:E} {M:Nat} (hx:x.depth≤M) (hy:y.depth≤M):LE B x y↔av B M x≤av B M y:=by
 have p:=zan hB (M-x.depth);have q:=zan hB (M-y.depth);have px:=zan hB x.depth;have py:=zan hB y.depth;have e1:=pw_cut B hx;have e2:=pw_cut B hy;unfold LE av;generalize pw B (M-x.depth)=a at *;generalize pw B (M-y.depth)=b at *;generalize pw B x.depth=P at *;generalize pw B y.depth=Q at *;generalize x.num=u at *;generalize y.num=v at *;have e3:a*P=b*Q:=e1.symm.trans e2
 have hPQ:0<P*Q:=Int.mul_pos (by omega) (by omega)
 have hab:0<a*b:=Int.mul_pos (by omega) (by omega)
 have t1:u*a*(P*Q)=(u*Q)*(a*P):=by ac_rfl
 have t2:v*b*(P*Q)=(v*P)*(b*Q):=by ac_rfl
 have t3:u*Q*(a*b)=(u*a)*(b*Q):=by ac_rfl
 have t4:v*P*(a*b)=(v*b)*(a*P):=by ac_rfl
 have hK:0<b*Q:=Int.mul_pos (by omega) (by omega)
 constructor
 ·intro h
  refine Int.le_of_mul_le_mul_right ?_ hPQ
  rw[t1,t2,e3]
  exact Int.mul_le_mul_of_nonneg_right h (by omega)
 ·intro h
  refine Int.le_of_mul_le_mul_right ?_ hab
  rw[t3,t4,e3]
  exact Int.mul_le_mul_of_nonneg_right h (by omega)
theorem zdo (B:Int) (x:E):LE B x x:=Int.le_refl _
theorem zcY {B:Int} (hB:1≤B) {x y z:E} (h:LE B x y) (k:LE B y z):LE B x z:=by
 obtain⟨M,hM⟩:∃M,M=max x.depth (max y.depth z.depth):=⟨_,rfl⟩
 rw[le_av hB (M:=M) (by omega) (by omega)]at *
 omega
theorem le_neg' {B:Int} (hB:1≤B) {x y:E} (h:LE B x y):LE B (negE y) (negE x):=by
 obtain⟨M,hM⟩:∃M,M=max x.depth y.depth:=⟨_,rfl⟩
 have k:=(le_av hB (M:=M) (x:=x) (y:=y) (by omega) (by omega)).1 h
 refine (le_av hB (M:=M) (x:=negE y) (y:=negE x) (show y.depth≤M by omega) (show x.depth≤M by omega)).2 ?_
 rw[neg_av,neg_av]
 omega
theorem bestS_top {B:Int} (hB:1≤B) {f:List Int→Option E} {l:List (List Int)} {t:Nat×Nat×E} (h:bestS B f l=some t):∀q∈l,∀x,f q=some x→LE B x t.2.2:=by
 induction l using zaH generalizing t with
 | nil=>intro q hq;cases hq
 | snoc l q ih =>
   intro p hp y hy
   rw [zaN] at h
   cases hs : bestS B f l with
   | none => rw [hs] at h; cases h
   | some u =>
     rw [hs] at h
     cases hf : f q with
     | none => rw [hf] at h; cases h
     | some x =>
       rw [hf] at h
       simp only [Option.bind_some, Option.map_some, Option.some.injEq] at h
       have hc := (zfS hs).1; subst h
       rcases List.mem_append.1 hp with hp | hp
       · have hl : l.length ≠ 0 := by intro h0; rw [List.length_eq_zero_iff] at h0; subst h0; cases hp
         have i := ih hs p hp y hy
         split
         · rename_i hlt
           rcases hlt with hlt | hlt
           · omega
           · exact zcY hB i (lt_le hlt)
         · exact i
       · have hpq : p = q := by simpa using hp
         subst hpq; rw [hf] at hy; injection hy with hy; subst hy
         split
         · exact zdo B x
         · rename_i hlt
           refine le_lt.2 ?_
           cases hb : ltE B u.2.2 x with
           | false => rfl
           | true => exact absurd (.inr hb) hlt
theorem bestS_at {B:Int} {f:List Int→Option E} {l:List (List Int)} {t:Nat×Nat×E} (h:bestS B f l=some t) (hl:l≠[]):t.2.1<l.length∧f (l.getD t.2.1 [])=some t.2.2:=by
 induction l using zaH generalizing t with
 | nil=>exact absurd rfl hl
 | snoc l q ih =>
   rw [zaN] at h
   cases hs : bestS B f l with
   | none => rw [hs] at h; cases h
   | some u =>
     rw [hs] at h
     cases hf : f q with
     | none => rw [hf] at h; cases h
     | some x =>
       rw [hf] at h
       simp only [Option.bind_some, Option.map_some, Option.some.injEq] at h
       have hc := (zfS hs).1; subst h
       split
       · refine ⟨by simp [hc], ?_⟩
         show f ((l ++ [q]).getD u.1 []) = some x
         rw [hc]
         simp [List.getD, hf]
       · rename_i hlt
         have hn : l ≠ [] := by rintro rfl; exact hlt (.inl (by simpa using hc))
         obtain ⟨i1, i2⟩ := ih hs hn
         refine ⟨by show u.2.1 < _; rw [List.length_append]; omega, ?_⟩
         show f ((l ++ [q]).getD u.2.1 []) = some u.2.2
         have e : (l ++ [q]).getD u.2.1 [] = l.getD u.2.1 [] := by simp [List.getD, List.getElem?_append_left i1]
         rw [e]
         exact i2
theorem bestS_le {B:Int} (hB:1≤B) {f g:List Int→Option E} {l:List (List Int)} {t u:Nat×Nat×E} (h:bestS B f l=some t) (k:bestS B g l=some u) (hfg:∀q∈l,∀x y,f q=some x→g q=some y→LE B x y):LE B t.2.2 u.2.2:=by
 by_cases hl:l=[]
 ·subst hl
  rw[zet]at h k;injection h with h;injection k with k;subst h;subst k
  exact zdo B _
 ·obtain⟨i1,i2⟩:=bestS_at h hl
  have hm:l.getD t.2.1 []∈l:=by
   rw[List.getD_eq_getElem?_getD,List.getElem?_eq_getElem i1]
   exact List.getElem_mem i1
  obtain⟨y,hy⟩:=bestS_all k _ hm
  exact zcY hB (hfg _ hm _ _ i2 hy) (bestS_top hB k _ hm y hy)
theorem avS_le {B:Int} {M:Nat}:∀{rs:List (Nat×Nat)} {xs ys:List E},xs.length=ys.length→(∀i,i<xs.length→av B M (xs.getD i zbv)≤av B M (ys.getD i zbv))→avS B M (rs.zip xs)≤avS B M (rs.zip ys):=by
 intro rs
 induction rs with
 | nil=>intro xs ys _ _;simp[avS]
 | cons r rs ih =>
   intro xs ys hl hi
   cases xs with
   | nil =>
     cases ys with
     | nil => simp [avS]
     | cons y ys => simp at hl
   | cons x xs =>
     cases ys with
     | nil => simp at hl
     | cons y ys =>
       have h0 := hi 0 (by simp)
       have h1 := ih (xs := xs) (ys := ys) (by simpa using hl) fun i hx => by have := hi (i + 1) (by simpa using hx); simpa [List.getD] using this
       have hw := weight_pos r
       have h0' : av B M x ≤ av B M y := by simpa [List.getD] using h0
       have k1 := Int.mul_le_mul_of_nonneg_right h0' (show 0 ≤ zaB r by omega)
       have e1 : avS B M ((r, x) :: rs.zip xs) = av B M x * zaB r + avS B M (rs.zip xs) := by simp [avS]
       have e2 : avS B M ((r, y) :: rs.zip ys) = av B M y * zaB r + avS B M (rs.zip ys) := by simp [avS]
       rw [List.zip_cons_cons, List.zip_cons_cons, e1, e2]
       omega
theorem mean_le {B:Int} (hB:1≤B) {rs:List (Nat×Nat)} {xs ys:List E} {x y:E} (h:meanE B rs xs=some x) (k:meanE B rs ys=some y) (hl:xs.length=ys.length) (hi:∀i,i<xs.length→LE B (xs.getD i zbv) (ys.getD i zbv)):LE B x y:=by
 obtain⟨M1,hM1⟩:=zfP xs;obtain⟨M2,hM2⟩:=zfP ys;obtain⟨M,hM⟩:∃M,M=max M1 M2:=⟨_,rfl⟩
 obtain⟨d1,e1⟩:=mean_av (M:=M) hB h fun z hz=>by have:=hM1 z hz;omega
 obtain⟨d2,e2⟩:=mean_av (M:=M) hB k fun z hz=>by have:=hM2 z hz;omega
 rw[le_av hB d1 d2,e1,e2]
 refine avS_le hl fun i hx=>?_
 have hmem:∀{zs:List E} {j:Nat},j<zs.length→zs.getD j zbv∈zs:=fun {zs j} hj=>by
  rw[List.getD_eq_getElem?_getD,List.getElem?_eq_getElem hj]
  exact List.getElem_mem hj
 exact (le_av hB (by have:=hM1 _ (hmem hx);omega) (by have:=hM2 _ (hmem (show i<ys.length by omega));omega)).1 (hi i hx)
theorem cmp_ge {B:Int} {x y:E}:0≤cmpE B x y↔LE B y x:=by
 unfold cmpE LE
 split
 ·constructor
  ·intro h;omega
  ·intro h;omega
 ·split
  ·constructor
   ·intro _;omega
   ·intro _;omega
  ·constructor
   ·intro _;omega
   ·intro _;omega
end Go.Proofs.YtkaiilmgemaljaaGreat.Ra

/- Part of one proof. There are no conditions. -/
import Derived.Test.YtkaiilmgemaljaaGreatTU2
set_option linter.unusedVariables false
set_option linter.unusedSimpArgs false
namespace Go.Proofs.YtkaiilmgemaljaaGreat.Ra
open Go.Proofs.YtkaiilmgemaljaaGreat.Ex Go.Proofs.YtkaiilmgemaljaaGreat.Ps
def LE (B:Int) (x y:E):Prop:=x.num*pw B y.depth<=y.num*pw B x.depth
theorem le_lt {B:Int} {x y:E}:LE B x y↔ltE B y x=false:=by
 unfold LE ltE;rw[decide_eq_false_iff_not]
 omega
theorem lt_le {B:Int} {x y:E} (h:ltE B x y=true):LE B x y:=by
 have:=of_decide_eq_true h;unfold LE
 omega
theorem le_av {B:Int} (hB:1<=B) {x y:E} {M:Nat} (hx:x.depth<=M) (hy:y.depth<=M):LE B x y↔av B M x<=av B M y:=by
 have p:=aA hB (M-x.depth);have q:=aA hB (M-y.depth);have px:=aA hB x.depth;have py:=aA hB y.depth;have e1:=iV B hx;have e2:=iV B hy;unfold LE av;generalize pw B (M-x.depth)=a at *;generalize pw B (M-y.depth)=b at *;generalize pw B x.depth=P at *;generalize pw B y.depth=Q at *;generalize x.num=u at *;generalize y.num=v at *;have e3:a*P=b*Q:=e1.symm.trans e2
 have hPQ:0<P*Q:=Int.mul_pos (by omega) (by omega)
 have hab:0<a*b:=Int.mul_pos (by omega) (by omega)
 have t1:u*a*(P*Q)=(u*Q)*(a*P):=by ac_rfl
 have t2:v*b*(P*Q)=(v*P)*(b*Q):=by ac_rfl
 have t3:u*Q*(a*b)=(u*a)*(b*Q):=by ac_rfl
 have t4:v*P*(a*b)=(v*b)*(a*P):=by ac_rfl
 have hK:0<b*Q:=Int.mul_pos (by omega) (by omega)
 constructor
 ·intro h
  refine Int.le_of_mul_le_mul_right ?_ hPQ
  rw[t1,t2,e3]
  exact Int.mul_le_mul_of_nonneg_right h (by omega)
 ·intro h
  refine Int.le_of_mul_le_mul_right ?_ hab
  rw[t3,t4,e3]
  exact Int.mul_le_mul_of_nonneg_right h (by omega)
theorem le_refl' (B:Int) (x:E):LE B x x:=Int.le_refl _
theorem le_trans' {B:Int} (hB:1<=B) {x y z:E} (h:LE B x y) (k:LE B y z):LE B x z:=by
 obtain⟨M,hM⟩:∃M,M=max x.depth (max y.depth z.depth):=⟨_,rfl⟩
 rw[le_av hB (M:=M) (by omega) (by omega)]at *
 omega
theorem bestS_top {B:Int} (hB:1<=B) {f:List Int->Option E} {l:List (List Int)} {t:Nat×Nat×E} (h:bestS B f l=some t):∀q∈l,∀x,f q=some x->LE B x t.2.2:=by
 induction l using aJ generalizing t with
 | nil=>intro q hq;cases hq
 | snoc l q ih =>
   intro p hp y hy
   rw [aV] at h
   cases hs : bestS B f l with
   | none => rw [hs] at h; cases h
   | some u =>
     rw [hs] at h
     cases hf : f q with
     | none => rw [hf] at h; cases h
     | some x =>
       rw [hf] at h
       simp only [Option.bind_some, Option.map_some, Option.some.injEq] at h
       have hc := (cT hs).1; subst h
       rcases List.mem_append.1 hp with hp | hp
       · have hl : l.length ≠ 0 := by intro h0; rw [List.length_eq_zero_iff] at h0; subst h0; cases hp
         have i := ih hs p hp y hy
         split
         · rename_i hlt
           rcases hlt with hlt | hlt
           · omega
           · exact le_trans' hB i (lt_le hlt)
         · exact i
       · have hpq : p = q := by simpa using hp
         subst hpq; rw [hf] at hy; injection hy with hy; subst hy
         split
         · exact le_refl' B x
         · rename_i hlt
           refine le_lt.2 ?_
           cases hb : ltE B u.2.2 x with
           | false => rfl
           | true => exact absurd (.inr hb) hlt
theorem bestS_at {B:Int} {f:List Int->Option E} {l:List (List Int)} {t:Nat×Nat×E} (h:bestS B f l=some t) (hl:l≠[]):t.2.1<l.length/\f (l.getD t.2.1 [])=some t.2.2:=by
 induction l using aJ generalizing t with
 | nil=>exact absurd rfl hl
 | snoc l q ih =>
   rw [aV] at h
   cases hs : bestS B f l with
   | none => rw [hs] at h; cases h
   | some u =>
     rw [hs] at h
     cases hf : f q with
     | none => rw [hf] at h; cases h
     | some x =>
       rw [hf] at h
       simp only [Option.bind_some, Option.map_some, Option.some.injEq] at h
       have hc := (cT hs).1; subst h
       split
       · refine ⟨by simp [hc], ?_⟩
         show f ((l ++ [q]).getD u.1 []) = some x
         rw [hc]
         simp [List.getD, hf]
       · rename_i hlt
         have hn : l ≠ [] := by rintro rfl; exact hlt (.inl (by simpa using hc))
         obtain ⟨i1, i2⟩ := ih hs hn
         refine ⟨by show u.2.1 < _; rw [List.length_append]; omega, ?_⟩
         show f ((l ++ [q]).getD u.2.1 []) = some u.2.2
         have e : (l ++ [q]).getD u.2.1 [] = l.getD u.2.1 [] := by simp [List.getD, List.getElem?_append_left i1]
         rw [e]
         exact i2
end Go.Proofs.YtkaiilmgemaljaaGreat.Ra

/- Part of one proof. There are no conditions. -/
import Derived.Test.YtkaiilmgemaljaaGreatGU1
import Derived.Test.YtkaiilmgemaljaaGreatGZp
import Derived.Test.YtkaiilmgemaljaaGreatGZn
set_option linter.unusedVariables false
set_option linter.unusedSimpArgs false
namespace Go.Proofs.YtkaiilmgemaljaaGreat.Ra
open Go.Proofs.YtkaiilmgemaljaaGreat.Ex Go.Proofs.YtkaiilmgemaljaaGreat.Ps
theorem bestS_mem {B:Int} {f:List Int->Option E} {l:List (List Int)} {t:Nat×Nat×E} (h:bestS B f l=some t):t.2.2=de\/∃q∈l,f q=some t.2.2:=by
 induction l using aZ generalizing t with
 | nil=>rw[eM]at h;injection h with h;subst h;exact .inl rfl
 | snoc l q ih =>
   rw [bA] at h
   cases hs : bestS B f l with
   | none => rw [hs] at h; cases h
   | some u =>
     rw [hs] at h
     cases hf : f q with
     | none => rw [hf] at h; cases h
     | some x =>
       rw [hf] at h
       simp only [Option.bind_some, Option.map_some, Option.some.injEq] at h
       subst h
       split
       · exact .inr ⟨q, by simp, hf⟩
       · rcases ih hs with i | ⟨p, hp, i⟩
         · exact .inl i
         · exact .inr ⟨p, by simp [hp], i⟩
theorem allS_mem {g:Nat×Nat->Option E} {l:List (Nat×Nat)} {t:List E} (h:allS g l=some t):∀x∈t,∃r∈l,g r=some x:=by
 induction l using aZ generalizing t with
 | nil=>unfold allS at h;simp at h;subst h;intro x hx;cases hx
 | snoc l q ih =>
   rw [cg] at h
   cases hs : allS g l with
   | none => rw [hs] at h; cases h
   | some u =>
     rw [hs] at h
     cases hf : g q with
     | none => rw [hf] at h; cases h
     | some x =>
       rw [hf] at h
       simp only [Option.bind_some, Option.map_some, Option.some.injEq] at h
       subst h
       intro y hy
       rcases List.mem_append.1 hy with hy | hy
       · obtain ⟨r, hr, e⟩ := ih hs y hy; exact ⟨r, by simp [hr], e⟩
       · rw [List.mem_singleton] at hy; subst hy; exact ⟨q, by simp, hf⟩
theorem sum_rowN (a:Nat):∀k,k<a->((rowN a k).map aE).sum=2*(k:Int)
 | 0,_=>by simp[rowN]
 | k + 1, h => by
   rw [rowN, List.map_append, List.sum_append, sum_rowN a k (by omega)]
   simp [aE, show a ≠ k + 1 by omega]
   omega
theorem jm:∀s:Nat,((ae s).map aE).sum=(s:Int)*s
 | 0=>by simp[ae]
 | a + 1 => by
   rw [ae, rowN, List.map_append, List.sum_append, List.map_append, List.sum_append, jm a, sum_rowN (a + 1) a (by omega)]
   simp [aE]
   rw [Int.add_mul, Int.mul_add]
   omega
theorem wgtL_zip:∀(l:List (Nat×Nat)) (xs:List E),l.length=xs.length->wgtL (l.zip xs)=(l.map aE).sum
 | [],[],_=>rfl
 | [],_::_,h=>by simp at h
 | _::_,[],h=>by simp at h
 | r :: l, x :: xs, h => by
   have := wgtL_zip l xs (by simpa using h)
   unfold wgtL at this ⊢
   simp [this]
theorem wgtL_rolls {s:Nat} {xs:List E} (h:xs.length=(ae s).length):wgtL ((ae s).zip xs)=sq s:=by
 rw[wgtL_zip _ _ h.symm,jm];rfl
theorem zip_mem {l:List (Nat×Nat)} {xs:List E} {P:E->Prop} (h:∀x∈xs,P x):∀rx∈l.zip xs,P rx.2:=fun _ hq=>h _ (List.of_mem_zip hq).2
theorem depth_all:∀xs:List E,∃M,∀x∈xs,x.depth<=M
 | []=>⟨0,fun x h=>by cases h⟩
 | a :: l => by
   obtain ⟨M, h⟩ := depth_all l
   refine ⟨max M a.depth, fun x hx => ?_⟩
   rcases List.mem_cons.1 hx with rfl | hx
   · omega
   · have := h x hx; omega
theorem avS_bd {B:Int} {M:Nat} {a b:Int}:∀{l:List ((Nat×Nat)×E)},(∀rx∈l,a<=av B M rx.2/\av B M rx.2<=b)->a*wgtL l<=avS B M l/\avS B M l<=b*wgtL l:=by
 intro l
 induction l with
 | nil=>intro _;simp[avS,wgtL]
 | cons rx l ih =>
   intro h
   obtain ⟨i1, i2⟩ := ih fun p hp => h p (by simp [hp])
   obtain ⟨h1, h2⟩ := h rx (by simp)
   have hw := weight_pos rx.1
   have e1 : avS B M (rx :: l) = av B M rx.2 * aE rx.1 + avS B M l := by simp [avS]
   have e2 : wgtL (rx :: l) = aE rx.1 + wgtL l := by simp [wgtL]
   have k1 := Int.mul_le_mul_of_nonneg_right h1 (show 0 <= aE rx.1 by omega)
   have k2 := Int.mul_le_mul_of_nonneg_right h2 (show 0 <= aE rx.1 by omega)
   rw [e1, e2, Int.mul_add, Int.mul_add]
   omega
theorem mean_av {B:Int} (hB:1<=B) {rs:List (Nat×Nat)} {xs:List E} {x:E} {M:Nat} (h:meanE B rs xs=some x) (hm:∀y∈xs,y.depth<=M):x.depth<=M+1/\av B (M+1) x=avS B M (rs.zip xs):=by
 unfold meanE at h
 cases hs:sumE B (rs.zip xs) with
 | none=>rw[hs]at h;cases h
 | some t =>
   rw [hs, Option.bind_some] at h; obtain ⟨h1, h2⟩ := sum_av (M := M) hB hs (zip_mem hm)
   obtain ⟨k1, k2⟩ := av_mk (M := M + 1) hB h (by omega)
   refine ⟨by omega, ?_⟩
   rw [k2, <- h2, show M + 1 - (t.depth + 1) = M - t.depth by omega]
   rfl
theorem mean_uni {s:Nat} (hB:1<=sq s) {xs:List E} {x:E} (h:meanE (sq s) (ae s) xs=some x) (hl:xs.length=(ae s).length) (hu:∀y∈xs,Uni1 (sq s) y):Uni1 (sq s) x:=by
 obtain⟨M,hM⟩:=depth_all xs;obtain⟨h1,h2⟩:=mean_av hB h hM;rw[uni_av hB h1,h2]
 have hb:=avS_bd (B:=sq s) (M:=M) (a:=0) (b:=pw (sq s) M) (l:=(ae s).zip xs) fun rx hr=>by
  have hx:=(List.of_mem_zip hr).2
  exact (uni_av hB (hM _ hx)).1 (hu _ hx)
 rw[wgtL_rolls hl,Int.zero_mul]at hb
 exact⟨hb.1,by rw[bf];exact hb.2⟩
theorem val_uni {s:Nat} (hB:1<=sq s):∀(f:Nat) {own other:List Int} {e:E},val s f own other=some e->Uni1 (sq s) e
 | 0,own,other,e,h=>by cases h
 | f + 1, own, other, e, h => by
   unfold val at h
   split at h
   · injection h with h; subst h; exact uni_one
   · split at h
     · injection h with h; subst h; exact uni_zero'
     · cases hs : allS (fun r => (bestS (s * s) (fun q => (val s f other q).bind (oneM (s * s))) (resultsL own r.1 r.2)).map fun t => t.2.2) (ae s) with
       | none => rw [hs] at h; cases h
       | some xs =>
         rw [hs] at h
         refine mean_uni hB h (allS_length hs) fun y hy => ?_
         obtain ⟨r, _, hr⟩ := allS_mem hs y hy
         cases ht : bestS (s * s) (fun q => (val s f other q).bind (oneM (s * s))) (resultsL own r.1 r.2) with
         | none => rw [ht] at hr; cases hr
         | some t =>
           rw [ht] at hr
           have hy' : t.2.2 = y := by simpa using hr
           rw [<- hy']
           rcases bestS_mem ht with h0 | ⟨q, _, hq⟩
           · rw [h0]; exact uni_zero'
           · cases hv : val s f other q with
             | none => rw [hv] at hq; cases hq
             | some z => rw [hv] at hq; exact uni_oneM hB hq (val_uni hB f hv)
theorem win_uni {s:Nat} (hB:1<=sq s) {own other:List Int} {e:E} (h:win s own other=some e):Uni1 (sq s) e:=val_uni hB _ h
def LE (B:Int) (x y:E):Prop:=x.num*pw B y.depth<=y.num*pw B x.depth
theorem le_lt {B:Int} {x y:E}:LE B x y↔ltE B y x=false:=by
 unfold LE ltE;rw[decide_eq_false_iff_not]
 omega
theorem lt_le {B:Int} {x y:E} (h:ltE B x y=true):LE B x y:=by
 have:=of_decide_eq_true h;unfold LE
 omega
theorem le_av {B:Int} (hB:1<=B) {x y:E} {M:Nat} (hx:x.depth<=M) (hy:y.depth<=M):LE B x y↔av B M x<=av B M y:=by
 have p:=az hB (M-x.depth);have q:=az hB (M-y.depth);have px:=az hB x.depth;have py:=az hB y.depth;have e1:=pw_cut B hx;have e2:=pw_cut B hy;unfold LE av;generalize pw B (M-x.depth)=a at *;generalize pw B (M-y.depth)=b at *;generalize pw B x.depth=P at *;generalize pw B y.depth=Q at *;generalize x.num=u at *;generalize y.num=v at *;have e3:a*P=b*Q:=e1.symm.trans e2
 have hPQ:0<P*Q:=Int.mul_pos (by omega) (by omega)
 have hab:0<a*b:=Int.mul_pos (by omega) (by omega)
 have t1:u*a*(P*Q)=(u*Q)*(a*P):=by ac_rfl
 have t2:v*b*(P*Q)=(v*P)*(b*Q):=by ac_rfl
 have t3:u*Q*(a*b)=(u*a)*(b*Q):=by ac_rfl
 have t4:v*P*(a*b)=(v*b)*(a*P):=by ac_rfl
 have hK:0<b*Q:=Int.mul_pos (by omega) (by omega)
 constructor
 ·intro h
  refine Int.le_of_mul_le_mul_right ?_ hPQ
  rw[t1,t2,e3]
  exact Int.mul_le_mul_of_nonneg_right h (by omega)
 ·intro h
  refine Int.le_of_mul_le_mul_right ?_ hab
  rw[t3,t4,e3]
  exact Int.mul_le_mul_of_nonneg_right h (by omega)
theorem le_refl' (B:Int) (x:E):LE B x x:=Int.le_refl _
theorem iN {B:Int} (hB:1<=B) {x y z:E} (h:LE B x y) (k:LE B y z):LE B x z:=by
 obtain⟨M,hM⟩:∃M,M=max x.depth (max y.depth z.depth):=⟨_,rfl⟩
 rw[le_av hB (M:=M) (by omega) (by omega)]at *
 omega
end Go.Proofs.YtkaiilmgemaljaaGreat.Ra

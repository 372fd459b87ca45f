/- Joined texts of one proof: Lists, Ways, Plain, Exact, Pos, Race, Ex2, Ex3, Ex4, Pos2. Each part tells what it shows. There are no conditions. -/
set_option linter.unusedVariables false
set_option linter.unusedSimpArgs false
/- Plain facts on lists. No program is in sight; there are no conditions. -/
namespace Go.Proofs.YtkaiilmgemaljaaGreat
theorem getD_app_lt {α:Type} (a b:List α) (d:α) {i:Nat} (h:i<a.length):(a++b).getD i d=a.getD i d:=by
 simp[List.getD,List.getElem?_append_left h]
theorem getD_app_ge {α:Type} (a b:List α) (d:α) {i:Nat} (h:a.length≤i):(a++b).getD i d=b.getD (i-a.length) d:=by
 simp[List.getD,List.getElem?_append_right h]
theorem snoc_ind {α:Type} {motive:List α→Prop} (l:List α) (nil:motive []) (snoc:∀l a,motive l→motive (l++[a])):motive l:=by
 have key:∀n (l:List α),l.length=n→motive l:=by
  intro n
  induction n with
  | zero=>intro l hl;rw[List.eq_nil_of_length_eq_zero hl];exact nil
  | succ n ih =>
    intro l hl
    have hne : l ≠ [] := by intro e; rw [e] at hl; simp at hl
    rw [← List.dropLast_concat_getLast hne]
    exact snoc _ _ (ih _ (by rw [List.length_dropLast, hl]; rfl))
 exact key _ l rfl
theorem take_snoc_getD {α:Type} (l:List α) (d:α) {k:Nat} (h:k<l.length):l.take (k+1)=l.take k++[l.getD k d]:=by
 rw[List.take_succ_eq_append_getElem h];simp[List.getD,h]
theorem getD_mem' {α:Type} (l:List α) (d:α) {k:Nat} (h:k<l.length):l.getD k d∈l:=by simp[List.getD,h]
theorem getD_map {α β:Type} (f:α→β) (l:List α) (d:α) (e:β) {k:Nat} (h:k<l.length):(l.map f).getD k e=f (l.getD k d):=by simp[List.getD,h]
end Go.Proofs.YtkaiilmgemaljaaGreat
/- Plain facts on the numbering of positions: how many lists of e numbers have at most a sum, the number of a list, that no two lists have one number. No program is in sight; there are no conditions. -/
namespace Go.Proofs.YtkaiilmgemaljaaGreat.Ps
def upTo (f:Nat→Nat):Nat→Nat
 | 0=>f 0
 | m+1=>f (m+1)+upTo f m
def wys:Nat→Nat→Nat
 | 0=>fun _=>1
 | e+1=>upTo (wys e)
theorem wys_zero (m:Nat):wys 0 m=1:=rfl
theorem wys_succ_zero (e:Nat):wys (e+1) 0=wys e 0:=rfl
theorem wys_succ (e m:Nat):wys (e+1) (m+1)=wys e (m+1)+wys (e+1) m:=rfl
theorem wys_at_zero (e:Nat):wys e 0=1:=by
 induction e with
 | zero=>rfl
 | succ e ih=>rw[wys_succ_zero,ih]
def fact:Nat→Nat
 | 0=>1
 | n+1=>(n+1)*fact n
theorem fact_succ (n:Nat):fact (n+1)=(n+1)*fact n:=rfl
theorem fact_pos (n:Nat):0<fact n:=by
 induction n with
 | zero=>exact Nat.one_pos
 | succ n ih=>rw[fact_succ];exact Nat.mul_pos (Nat.succ_pos n) ih
theorem wys_fact (e:Nat):∀m,wys e m*(fact e*fact m)=fact (e+m):=by
 induction e with
 | zero=>intro m;simp[wys_zero,fact]
 | succ e ih =>
   intro m
   induction m with
   | zero => simp [wys_at_zero, fact]
   | succ m ihm =>
     have h1 := ih (m + 1)
     have e1 : fact (e + 1) * fact (m + 1) = (e + 1) * (fact e * fact (m + 1)) := by rw [fact_succ e, Nat.mul_assoc]
     have e2 : fact (e + 1) * fact (m + 1) = (m + 1) * (fact (e + 1) * fact m) := by rw [fact_succ m, Nat.mul_left_comm]
     rw [wys_succ, Nat.add_mul, e1]
     rw [show wys (e + 1) m * ((e + 1) * (fact e * fact (m + 1))) = wys (e + 1) m * ((m + 1) * (fact (e + 1) * fact m)) by rw [← e1, e2]]
     rw [Nat.mul_left_comm, h1, Nat.mul_left_comm, ihm]
     have e3 : e + 1 + (m + 1) = (e + m + 1) + 1 := by omega
     have e4 : e + (m + 1) = e + m + 1 := by omega
     have e5 : e + 1 + m = e + m + 1 := by omega
     rw [e3, fact_succ (e + m + 1), e4, e5, ← Nat.add_mul]
     congr 1
     try omega
theorem wys_step (i m:Nat):wys (i+1) m*(i+1)=wys i m*(m+i+1):=by
 have h1:=wys_fact (i+1) m;have h2:=wys_fact i m;have hp:0<fact i*fact m:=Nat.mul_pos (fact_pos i) (fact_pos m)
 refine Nat.eq_of_mul_eq_mul_right hp ?_
 rw[fact_succ i,Nat.mul_assoc]at h1
 have e1:wys (i+1) m*(i+1)*(fact i*fact m)=fact (i+1+m):=by rw[Nat.mul_assoc];exact h1
 have e2:wys i m*(m+i+1)*(fact i*fact m)=(m+i+1)*fact (i+m):=by rw[← h2,Nat.mul_right_comm,Nat.mul_comm]
 rw[e1,e2,show i+1+m=(i+m)+1 by omega,fact_succ,show m+i+1=i+m+1 by omega]
theorem wys_div (i m:Nat):wys i m*(m+i+1) / (i+1)=wys (i+1) m:=by
 rw[← wys_step];exact Nat.mul_div_cancel _ (Nat.succ_pos i)
theorem upTo_mono {f:Nat→Nat} {a b:Nat} (h:a≤b):upTo f a≤upTo f b:=by
 induction b with
 | zero=>rw[Nat.le_zero.1 h];exact Nat.le_refl _
 | succ b ih =>
   rcases Nat.lt_or_ge a (b + 1) with hl | hl
   · have := ih (by omega); show _ ≤ f (b + 1) + upTo f b; omega
   · rw [Nat.le_antisymm h hl]; exact Nat.le_refl _
theorem le_upTo (f:Nat→Nat) (m:Nat):f m≤upTo f m:=by
 cases m with
 | zero=>exact Nat.le_refl _
 | succ m=>show f (m+1)≤f (m+1)+upTo f m;omega
theorem wys_mono_right {e a b:Nat} (h:a≤b):wys e a≤wys e b:=by
 cases e with
 | zero=>exact Nat.le_refl _
 | succ e=>exact upTo_mono h
theorem wys_mono_succ (e m:Nat):wys e m≤wys (e+1) m:=le_upTo (wys e) m
theorem wys_mono_left {d e:Nat} (h:d≤e) (m:Nat):wys d m≤wys e m:=by
 induction e with
 | zero=>rw[Nat.le_zero.1 h];exact Nat.le_refl _
 | succ e ih =>
   rcases Nat.lt_or_ge d (e + 1) with hl | hl
   · exact Nat.le_trans (ih (by omega)) (wys_mono_succ e m)
   · rw [Nat.le_antisymm h hl]; exact Nat.le_refl _
theorem wys_mono {d e a b:Nat} (h:d≤e) (k:a≤b):wys d a≤wys e b:=Nat.le_trans (wys_mono_left h a) (wys_mono_right k)
theorem wys_pos (e m:Nat):1≤wys e m:=by
 have:=wys_mono (Nat.zero_le e) (Nat.zero_le m);rwa [wys_at_zero]at this
def sumW (i left:Nat):Nat→Nat
 | 0=>0
 | x+1=>sumW i left x+wys i (left-x)
theorem sumW_succ (i left x:Nat):sumW i left (x+1)=sumW i left x+wys i (left-x):=rfl
theorem sumW_mono {i left x y:Nat} (h:x≤y):sumW i left x≤sumW i left y:=by
 induction y with
 | zero=>rw[Nat.le_zero.1 h];exact Nat.le_refl _
 | succ y ih =>
   rcases Nat.lt_or_ge x (y + 1) with hl | hl
   · have := ih (by omega); rw [sumW_succ]; omega
   · rw [Nat.le_antisymm h hl]; exact Nat.le_refl _
theorem sumW_upTo (i left:Nat):∀x,x≤left→sumW i left x+upTo (wys i) (left-x)=upTo (wys i) left
 | 0,_=>by simp[sumW]
 | x + 1, h => by
   rw [sumW_succ, ← sumW_upTo i left x (by omega)]
   obtain ⟨k, hk⟩ : ∃ k, left - x = k + 1 := ⟨left - x - 1, by omega⟩
   rw [hk, show left - (x + 1) = k by omega]
   show _ + wys i (k + 1) + upTo (wys i) k = _ + (wys i (k + 1) + upTo (wys i) k)
   omega
def numT:List Int→Nat→Nat
 | [],_=>0
 | x::r,left=>sumW r.length left x.toNat+numT r (left-x.toNat)
theorem numT_cons (x:Int) (r:List Int) (left:Nat):numT (x::r) left=sumW r.length left x.toNat+numT r (left-x.toNat):=rfl
theorem numT_lt:∀(l:List Int) (left:Nat),(∀x∈l,0≤x)→l.sum≤left→numT l left<wys l.length left
 | [],left,_,_=>by simp[numT,wys_zero]
 | x :: r, left, h0, hs => by
   have hx := h0 x (by simp)
   have hr : ∀ y ∈ r, 0 ≤ y := fun y hy => h0 y (by simp [hy])
   have hrs : 0 ≤ r.sum := by
     clear hs h0 hx
     induction r with
     | nil => simp
     | cons y r ih => have := hr y (by simp); have := ih fun z hz => hr z (by simp [hz]); simp only [List.sum_cons]; omega
   simp only [List.sum_cons] at hs
   have ih := numT_lt r (left - x.toNat) hr (by omega)
   have h1 := sumW_upTo r.length left x.toNat (by omega)
   have h2 := le_upTo (wys r.length) (left - x.toNat); rw [numT_cons]
   show _ < upTo (wys r.length) left
   omega
theorem numT_inj:∀(l k:List Int) (left:Nat),l.length=k.length→(∀x∈l,0≤x)→(∀x∈k,0≤x)→l.sum≤left→k.sum≤left→numT l left=numT k left→l=k
 | [],[],_,_,_,_,_,_,_=>rfl
 | [],_::_,_,h,_,_,_,_,_=>by simp at h
 | _::_,[],_,h,_,_,_,_,_=>by simp at h
 | x :: r, y :: q, left, hl, h0, k0, hs, ks, he => by
   have key : ∀ (x y : Int) (r q : List Int), r.length = q.length → (∀ z ∈ x :: r, 0 ≤ z) → (x :: r).sum ≤ left → 0 ≤ y → x < y → numT (x :: r) left < numT (y :: q) left := by
     intro x y r q hl h0 hs hy hxy
     have hx := h0 x (by simp)
     have hr : ∀ y ∈ r, 0 ≤ y := fun y hy => h0 y (by simp [hy])
     have hrs : 0 ≤ r.sum := by
       clear hs h0 hl
       induction r with
       | nil => simp
       | cons y r ih => have := hr y (by simp); have := ih fun z hz => hr z (by simp [hz]); simp only [List.sum_cons]; omega
     simp only [List.sum_cons] at hs
     have h1 := numT_lt r (left - x.toNat) hr (by omega)
     have h2 : sumW r.length left (x.toNat + 1) ≤ sumW r.length left y.toNat := sumW_mono (by omega)
     rw [sumW_succ] at h2; rw [numT_cons, numT_cons, ← hl]
     omega
   have hl' : r.length = q.length := by simpa using hl
   have hx := h0 x (by simp)
   have hy := k0 y (by simp)
   rcases Int.lt_trichotomy x y with h | h | h
   · have := key x y r q hl' h0 hs hy h; omega
   · subst h
     rw [numT_cons, numT_cons, hl'] at he
     simp only [List.sum_cons] at hs ks
     have := numT_inj r q (left - x.toNat) hl' (fun z hz => h0 z (by simp [hz])) (fun z hz => k0 z (by simp [hz])) (by omega) (by omega) (by omega)
     rw [this]
   · have := key y x q r hl'.symm k0 ks hx h; omega
def PosP (h c:Nat) (p:List Int):Prop:=p.length=h∧(∀x∈p,0≤x)∧p.sum≤c
instance (h c:Nat) (p:List Int):Decidable (PosP h c p):=by unfold PosP;infer_instance
def num (c:Nat) (p:List Int):Nat:=numT p.reverse c
theorem num_lt {h c:Nat} {p:List Int} (hp:PosP h c p):num c p<wys h c:=by
 have:=numT_lt p.reverse c (fun x hx=>hp.2.1 x (by simpa using hx)) (by rw[List.sum_reverse];exact hp.2.2)
 rwa [List.length_reverse,hp.1]at this
theorem num_inj {h c:Nat} {p q:List Int} (hp:PosP h c p) (hq:PosP h c q) (he:num c p=num c q):p=q:=by
 have:=numT_inj p.reverse q.reverse c (by rw[List.length_reverse,List.length_reverse,hp.1,hq.1]) (fun x hx=>hp.2.1 x (by simpa using hx)) (fun x hx=>hq.2.1 x (by simpa using hx))
  (by rw[List.sum_reverse];exact hp.2.2) (by rw[List.sum_reverse];exact hq.2.2) he
 simpa using congrArg List.reverse this
theorem pair_inj {n a b c d:Nat} (hb:b<n) (hd:d<n) (h:a*n+b=c*n+d):a=c∧b=d:=by
 have h1:(a*n+b) / n=a:=by rw[Nat.add_comm,Nat.add_mul_div_right _ _ (by omega),Nat.div_eq_of_lt hb,Nat.zero_add]
 have h2:(c*n+d) / n=c:=by rw[Nat.add_comm,Nat.add_mul_div_right _ _ (by omega),Nat.div_eq_of_lt hd,Nat.zero_add]
 have:a=c:=by rw[← h1,← h2,h]
 subst this
 exact⟨rfl,by omega⟩
theorem pair_lt {n a b:Nat} (ha:a<n) (hb:b<n):a*n+b<n*n:=by
 have:a*n+n≤n*n:=by
  have:=Nat.mul_le_mul_right n (show a+1≤n by omega)
  rw[Nat.add_mul]at this;omega
 omega
end Go.Proofs.YtkaiilmgemaljaaGreat.Ps
/- Plain facts on lists and numbers: what a variant, a side, a board, a desk is. No program is in sight; there are no conditions. -/
namespace Go.Proofs.YtkaiilmgemaljaaGreat
/-! ### sums of lists -/
theorem sum_take_succ (xs:List Int) (k:Nat) (h:k<xs.length):(xs.take (k+1)).sum=(xs.take k).sum+xs.getD k 0:=by
 rw[List.take_succ_eq_append_getElem h,List.sum_append]
 simp[List.getD,h]
theorem sum_nonneg (xs:List Int) (h:∀x∈xs,0≤x):0≤xs.sum:=by
 induction xs with
 | nil=>simp
 | cons x r ih =>
   have h1 := h x (by simp)
   have h2 := ih fun y hy => h y (by simp [hy])
   simp only [List.sum_cons]; omega
theorem sum_take_le (xs:List Int) (k:Nat) (h:∀x∈xs,0≤x):(xs.take k).sum≤xs.sum:=by
 have e:xs.sum=(xs.take k).sum+(xs.drop k).sum:=by rw[← List.sum_append,List.take_append_drop]
 have:=sum_nonneg (xs.drop k) fun x hx=>h x (List.mem_of_mem_drop hx)
 omega
theorem sum_take_nonneg (xs:List Int) (k:Nat) (h:∀x∈xs,0≤x):0≤(xs.take k).sum:=
 sum_nonneg _ fun x hx=>h x (List.mem_of_mem_take hx)
theorem getD_mem (xs:List Int) (k:Nat) (h:k<xs.length):xs.getD k 0∈xs:=by simp[List.getD,h]
/-! ### variants, sides, boards -/
def isVar (p c h s:Int):Bool:=decide (2≤p∧p≤24∧1≤c∧c≤15∧1≤h∧h≤p∧1≤s∧s≤6)
theorem isVar_yes {p c h s:Int} (H:isVar p c h s=true):2≤p∧p≤24∧1≤c∧c≤15∧1≤h∧h≤p∧1≤s∧s≤6:=of_decide_eq_true H
theorem isVar_mk {p c h s:Int} (H:2≤p∧p≤24∧1≤c∧c≤15∧1≤h∧h≤p∧1≤s∧s≤6):isVar p c h s=true:=decide_eq_true H
theorem isVar_no {p c h s:Int} (H:¬(2≤p∧p≤24∧1≤c∧c≤15∧1≤h∧h≤p∧1≤s∧s≤6)):isVar p c h s=false:=decide_eq_false H
def SideP (p c:Int) (xs:List Int):Prop:=(xs.length:Int)=p+1∧(∀x∈xs,0≤x)∧xs.sum≤c
instance (p c:Int) (xs:List Int):Decidable (SideP p c xs):=by unfold SideP;infer_instance
def FreeP (p:Nat) (own other:List Int):Prop:=∀i,i<p→¬(0<own.getD i 0∧0<other.getD (p-1-i) 0)
instance (p:Nat) (own other:List Int):Decidable (FreeP p own other):=by unfold FreeP;infer_instance
def BoardP (p c:Int) (own other:List Int):Prop:=SideP p c own∧SideP p c other∧own.sum+other.sum≠0∧FreeP p.toNat own other
instance (p c:Int) (own other:List Int):Decidable (BoardP p c own other):=by unfold BoardP;infer_instance
end Go.Proofs.YtkaiilmgemaljaaGreat
/- Plain facts on exact numbers: a number over a power of a base in its one normal form. No program is in sight; there are no conditions. -/
namespace Go.Proofs.YtkaiilmgemaljaaGreat.Ex
def pw (B:Int):Nat→Int
 | 0=>1
 | k+1=>pw B k*B
theorem pw_zero (B:Int):pw B 0=1:=rfl
theorem pw_succ (B:Int) (k:Nat):pw B (k+1)=pw B k*B:=rfl
theorem pw_pos {B:Int} (hB:1≤B) (k:Nat):1≤pw B k:=by
 induction k with
 | zero=>exact Int.le_refl _
 | succ k ih =>
   rw [pw_succ]
   have := Int.mul_le_mul ih hB (by omega) (by omega)
   omega
theorem pw_add (B:Int) (a b:Nat):pw B (a+b)=pw B a*pw B b:=by
 induction b with
 | zero=>simp[pw_zero]
 | succ b ih=>rw[← Nat.add_assoc,pw_succ,ih,pw_succ,Int.mul_assoc]
theorem pw_mono {B:Int} (hB:1≤B) {a b:Nat} (h:a≤b):pw B a≤pw B b:=by
 obtain⟨k,rfl⟩:=Nat.exists_eq_add_of_le h;rw[pw_add];have h1:=pw_pos hB a;have h2:=pw_pos hB k
 have:=Int.mul_le_mul (Int.le_refl (pw B a)) h2 (by omega) (by omega)
 omega
theorem pw_one (k:Nat):pw 1 k=1:=by
 induction k with
 | zero=>rfl
 | succ k ih=>rw[pw_succ,ih];rfl
structure E where
 num:Int
 depth:Nat
 deriving DecidableEq
def Low (B:Int) (x:E):Prop:=x.depth=0∨¬B ∣ x.num
def Same (B:Int) (x y:E):Prop:=x.num*pw B y.depth=y.num*pw B x.depth
theorem low_unique {B:Int} (hB:1≤B) {x y:E} (hx:Low B x) (hy:Low B y) (h:Same B x y):x=y:=by
 have key:∀{x y:E},Low B y→Same B x y→x.depth≤y.depth→x=y:=by
  intro x y hy h hd
  obtain⟨n,d⟩:=x;obtain⟨m,e⟩:=y;obtain⟨k,rfl⟩:=Nat.exists_eq_add_of_le hd
  simp only[Same]at h
  rw[pw_add,← Int.mul_assoc,Int.mul_right_comm]at h;have hp:=pw_pos hB d
  have h':n*pw B k=m:=Int.eq_of_mul_eq_mul_right (by omega) h
  cases k with
  | zero=>simp[pw_zero]at h';simp[h']
  | succ k =>
    exfalso
    rcases hy with hy | hy
    · simp at hy
    · apply hy
      refine ⟨n * pw B k, ?_⟩
      rw [← h', pw_succ, ← Int.mul_assoc, Int.mul_comm]
 rcases Nat.le_total x.depth y.depth with hd|hd
 ·exact key hy h hd
 ·exact (key hx h.symm hd).symm
def strip (B:Int):Nat→Int→E
 | 0,n=>⟨n,0⟩
 | d+1,n=>if B ∣ n then strip B d (n / B) else ⟨n,d+1⟩
theorem strip_low {B:Int}:∀(d:Nat) (n:Int),Low B (strip B d n)
 | 0,n=>.inl rfl
 | d + 1, n => by
   unfold strip
   split
   · exact strip_low d _
   · rename_i h; exact .inr h
theorem strip_depth {B:Int}:∀(d:Nat) (n:Int),(strip B d n).depth≤d
 | 0,n=>Nat.le_refl _
 | d + 1, n => by
   unfold strip
   split
   · exact Nat.le_succ_of_le (strip_depth d _)
   · exact Nat.le_refl _
theorem strip_same {B:Int} (hB:1≤B):∀(d:Nat) (n:Int),Same B (strip B d n) ⟨n,d⟩
 | 0,n=>rfl
 | d + 1, n => by
   unfold strip
   split
   · rename_i h
     have ih := strip_same hB d (n / B)
     simp only [Same] at ih ⊢
     rw [pw_succ, ← Int.mul_assoc, ih, Int.mul_right_comm, Int.ediv_mul_cancel h]
   · rfl
theorem same_trans {B:Int} (hB:1≤B) {x y z:E} (h:Same B x y) (k:Same B y z):Same B x z:=by
 simp only[Same]at h k ⊢
 have hp:=pw_pos hB y.depth
 refine Int.eq_of_mul_eq_mul_right (a:=pw B y.depth) (by omega) ?_
 calc x.num*pw B z.depth*pw B y.depth=x.num*pw B y.depth*pw B z.depth:=Int.mul_right_comm _ _ _
  _=y.num*pw B x.depth*pw B z.depth:=by rw[h]
  _=y.num*pw B z.depth*pw B x.depth:=Int.mul_right_comm _ _ _
  _=z.num*pw B y.depth*pw B x.depth:=by rw[k]
  _=z.num*pw B x.depth*pw B y.depth:=Int.mul_right_comm _ _ _
def maxNum:Int:=1000000000000000000
def maxScale:Int:=1000000000000000
def Val (B:Int) (x:E):Prop:=-maxNum≤x.num∧x.num≤maxNum∧pw B x.depth≤maxScale∧Low B x∧(B=1→x.depth=0)
instance (B:Int) (x:E):Decidable (Val B x):=by unfold Val Low;infer_instance
def mk (B:Int) (n:Int) (d:Nat):Option E:=if Val B (strip B d n) then some (strip B d n) else none
theorem strip_one:∀(d:Nat) (n:Int),strip 1 d n=⟨n,0⟩
 | 0,n=>rfl
 | d + 1, n => by
   unfold strip; rw [if_pos (Int.one_dvd n), Int.ediv_one]
   exact strip_one d n
theorem mk_some {B:Int} (hB:1≤B) {n:Int} {d:Nat} {x:E} (hv:Val B x) (h:Same B x ⟨n,d⟩):mk B n d=some x:=by
 have e:strip B d n=x:=low_unique hB (strip_low d n) hv.2.2.2.1 (same_trans hB (strip_same hB d n) h.symm);unfold mk;rw[e,if_pos hv]
theorem mk_none {B:Int} (hB:1≤B) {n:Int} {d:Nat} (h:∀x,Val B x→Same B x ⟨n,d⟩→False):mk B n d=none:=by
 unfold mk
 rw[if_neg fun hv=>h _ hv (strip_same hB d n)]
theorem mk_val {B:Int} (hB:1≤B) {n:Int} {d:Nat} {x:E} (h:mk B n d=some x):Val B x∧Same B x ⟨n,d⟩:=by
 unfold mk at h
 split at h
 ·rename_i hv
  injection h with h;subst h
  exact⟨hv,strip_same hB d n⟩
 ·cases h
end Go.Proofs.YtkaiilmgemaljaaGreat.Ex
/- Plain facts on bear-off positions: their order, lists of positions without repeats in order, steps, what a roll reaches. No program is in sight; there are no conditions. -/
namespace Go.Proofs.YtkaiilmgemaljaaGreat.Ps
/-! ### the order -/
def Bef (p q:List Int):Prop:=∃i,i<p.length∧p.getD i 0<q.getD i 0∧∀j,i<j→j<p.length→p.getD j 0=q.getD j 0
open Classical in
noncomputable def befB (p q:List Int):Bool:=decide (Bef p q)
theorem befB_yes {p q:List Int}:befB p q=true↔Bef p q:=by unfold befB;exact @decide_eq_true_iff _ (Classical.propDecidable _)
theorem befB_no {p q:List Int}:befB p q=false↔¬Bef p q:=by unfold befB;exact @decide_eq_false_iff_not _ (Classical.propDecidable _)
theorem bef_irrefl (p:List Int):¬Bef p p:=fun⟨i,_,h,_⟩=>by omega
theorem bef_asymm {p q:List Int} (hl:p.length=q.length) (h:Bef p q):¬Bef q p:=by
 rintro⟨k,hk,k1,k2⟩
 obtain⟨i,hi,h1,h2⟩:=h
 rcases Nat.lt_trichotomy i k with hik|hik|hik
 ·have:=h2 k hik (by omega);omega
 ·subst hik;omega
 ·have:=k2 i hik (by omega);omega
theorem bef_trans {p q r:List Int} (hl:p.length=q.length) (h:Bef p q) (k:Bef q r):Bef p r:=by
 obtain⟨i,hi,h1,h2⟩:=h;obtain⟨j,hj,k1,k2⟩:=k
 rcases Nat.lt_trichotomy i j with hij|hij|hij
 ·exact⟨j,by omega,by rw[h2 j hij (by omega)];exact k1,fun m hm hl'=>by rw[h2 m (by omega) hl',k2 m hm (by omega)]⟩
 ·subst hij;exact⟨i,hi,by omega,fun m hm hl'=>by rw[h2 m hm hl',k2 m hm (by omega)]⟩
 ·exact⟨i,hi,by rw[← k2 i hij (by omega)];exact h1,fun m hm hl'=>by rw[h2 m hm hl',k2 m (by omega) (by omega)]⟩
theorem ext_getD {p q:List Int} (hl:p.length=q.length) (h:∀i,i<p.length→p.getD i 0=q.getD i 0):p=q:=by
 refine List.ext_getElem hl fun i h1 h2=>?_
 have:=h i h1
 simpa[List.getD,h1,h2]using this
theorem bef_total {p q:List Int} (hl:p.length=q.length):Bef p q∨p=q∨Bef q p:=by
 have key:∀m,m≤p.length→(∀j,p.length-m≤j→j<p.length→p.getD j 0=q.getD j 0)∨Bef p q∨Bef q p:=by
  intro m
  induction m with
  | zero=>intro _;exact .inl fun j h1 h2=>absurd h2 (by omega)
  | succ m ih =>
    intro hm
    rcases ih (by omega) with h | h | h
    · rcases Int.lt_trichotomy (p.getD (p.length - (m + 1)) 0) (q.getD (p.length - (m + 1)) 0) with h1 | h1 | h1
      · exact .inr (.inl ⟨_, by omega, h1, fun j hj hj2 => h j (by omega) hj2⟩)
      · refine .inl fun j hj hj2 => ?_
        by_cases e : j = p.length - (m + 1)
        · rw [e]; exact h1
        · exact h j (by omega) hj2
      · exact .inr (.inr ⟨_, by omega, h1, fun j hj hj2 => (h j (by omega) (by omega)).symm⟩)
    · exact .inr (.inl h)
    · exact .inr (.inr h)
 rcases key p.length (Nat.le_refl _) with h|h|h
 ·exact .inr (.inl (ext_getD hl fun i hi=>h i (by omega) hi))
 ·exact .inl h
 ·exact .inr (.inr h)
/-! ### lists of positions in order, each once -/
def Lens (n:Nat) (l:List (List Int)):Prop:=∀p∈l,p.length=n
def Srt (l:List (List Int)):Prop:=l.Pairwise Bef
theorem srt_uniq {n:Nat}:∀{a b:List (List Int)},Lens n a→Lens n b→Srt a→Srt b→(∀x,x∈a↔x∈b)→a=b
 | [],[],_,_,_,_,_=>rfl
 | [],y::_,_,_,_,_,h=>absurd ((h y).2 (by simp)) (by simp)
 | x::_,[],_,_,_,_,h=>absurd ((h x).1 (by simp)) (by simp)
 | x :: a, y :: b, la, lb, sa, sb, h => by
   have sa' := List.pairwise_cons.1 sa; have sb' := List.pairwise_cons.1 sb
   have hx := la x (by simp)
   have hy := lb y (by simp)
   have e : x = y := by
     rcases List.mem_cons.1 ((h x).1 (by simp)) with h1 | h1
     · exact h1
     · rcases List.mem_cons.1 ((h y).2 (by simp)) with h2 | h2
       · exact h2.symm
       · exact absurd (sa'.1 y h2) (bef_asymm (by rw [hx, hy]) (sb'.1 x h1))
   subst e
   have : a = b := srt_uniq (fun p hp => la p (by simp [hp])) (fun p hp => lb p (by simp [hp])) sa'.2 sb'.2 fun z => by
     constructor
     · intro hz
       rcases List.mem_cons.1 ((h z).1 (by simp [hz])) with h1 | h1
       · subst h1; exact absurd (sa'.1 z hz) (bef_irrefl z)
       · exact h1
     · intro hz
       rcases List.mem_cons.1 ((h z).2 (by simp [hz])) with h1 | h1
       · subst h1; exact absurd (sb'.1 z hz) (bef_irrefl z)
       · exact h1
   rw [this]
noncomputable def putL:List (List Int)→List Int→List (List Int)
 | [],p=>[p]
 | q::r,p=>if befB q p then q::putL r p else if befB p q then p::q::r else q::r
theorem putL_cons (q:List Int) (r:List (List Int)) (p:List Int):putL (q::r) p=if befB q p then q::putL r p else if befB p q then p::q::r else q::r:=rfl
theorem putL_at:∀(l:List (List Int)) (p:List Int) (k:Nat),k≤l.length→(∀j,j<k→befB (l.getD j []) p=true)→(k<l.length→befB (l.getD k []) p=false)→
  putL l p=if k<l.length∧befB p (l.getD k [])=false then l else l.take k++p::l.drop k
 | [], p, k, hk, _, _ => by
   have : k = 0 := by simpa using hk
   subst this
   simp [putL]
 | q :: r, p, 0, _, _, h2 => by
   have := h2 (by simp)
   simp only [List.getD_cons_zero] at this
   rw [putL_cons, this]
   cases hb : befB p q <;> simp [hb]
 | q :: r, p, k + 1, hk, h1, h2 => by
   have h0 := h1 0 (by omega)
   simp only [List.getD_cons_zero] at h0
   have ih := putL_at r p k (by simpa using hk) (fun j hj => by have := h1 (j + 1) (by omega); simpa using this) (fun h => by have := h2 (by simpa using h); simpa using this)
   rw [putL_cons, h0, if_pos rfl, ih]
   by_cases hc : k < r.length ∧ befB p (r.getD k []) = false
   · rw [if_pos hc, if_pos (by simpa using hc)]
   · rw [if_neg hc, if_neg (by simpa using hc)]; rfl
theorem lens_putL {n:Nat}:∀{l:List (List Int)} {p:List Int},Lens n l→p.length=n→Lens n (putL l p)
 | [],p,_,hp=>fun x hx=>by simp[putL]at hx;rw[hx];exact hp
 | q :: r, p, hl, hp => by
   have hr : Lens n r := fun x hx => hl x (by simp [hx])
   have hq := hl q (by simp)
   intro x hx
   rw [putL_cons] at hx
   split at hx
   · rcases List.mem_cons.1 hx with h | h
     · rw [h]; exact hq
     · exact lens_putL hr hp x h
   · split at hx
     · rcases List.mem_cons.1 hx with h | h
       · rw [h]; exact hp
       · exact hl x h
     · exact hl x hx
theorem mem_putL {n:Nat}:∀{l:List (List Int)} {p:List Int},Lens n l→p.length=n→∀x,x∈putL l p↔x=p∨x∈l
 | [],p,_,_,x=>by simp[putL]
 | q :: r, p, hl, hp, x => by
   have hr : Lens n r := fun x hx => hl x (by simp [hx])
   have hq := hl q (by simp)
   rw [putL_cons]
   split
   · rw [List.mem_cons, mem_putL hr hp x, List.mem_cons]
     constructor
     · rintro (h | h | h) <;> simp [h]
     · rintro (h | h | h) <;> simp [h]
   · rename_i h1
     split
     · simp
     · rename_i h2
       have e : p = q := by
         rcases bef_total (p := p) (q := q) (by rw [hp, hq]) with h | h | h
         · exact absurd (befB_yes.2 h) h2
         · exact h
         · exact absurd (befB_yes.2 h) h1
       subst e
       simp
theorem srt_putL {n:Nat}:∀{l:List (List Int)} {p:List Int},Lens n l→p.length=n→Srt l→Srt (putL l p)
 | [],p,_,_,_=>List.pairwise_singleton _ _
 | q :: r, p, hl, hp, hs => by
   have hr : Lens n r := fun x hx => hl x (by simp [hx])
   have hq := hl q (by simp)
   have hs' := List.pairwise_cons.1 hs; rw [putL_cons]
   split
   · rename_i h1
     refine List.pairwise_cons.2 ⟨fun x hx => ?_, srt_putL hr hp hs'.2⟩
     rcases (mem_putL hr hp x).1 hx with h | h
     · rw [h]; exact befB_yes.1 h1
     · exact hs'.1 x h
   · split
     · rename_i h2
       refine List.pairwise_cons.2 ⟨fun x hx => ?_, hs⟩
       rcases List.mem_cons.1 hx with h | h
       · rw [h]; exact befB_yes.1 h2
       · exact bef_trans (by rw [hp, hq]) (befB_yes.1 h2) (hs'.1 x h)
     · exact hs
noncomputable def putAll (acc l:List (List Int)):List (List Int):=l.foldl putL acc
theorem putAll_nil (acc:List (List Int)):putAll acc []=acc:=rfl
theorem putAll_snoc (acc l:List (List Int)) (p:List Int):putAll acc (l++[p])=putL (putAll acc l) p:=by unfold putAll;rw[List.foldl_append];rfl
theorem putAll_spec {n:Nat}:∀{l acc:List (List Int)},Lens n acc→Lens n l→Srt acc→Lens n (putAll acc l)∧Srt (putAll acc l)∧∀x,x∈putAll acc l↔x∈acc∨x∈l
 | [],acc,ha,_,hs=>⟨ha,hs,fun x=>by simp[putAll_nil]⟩
 | p :: r, acc, ha, hl, hs => by
   have hp := hl p (by simp)
   obtain ⟨h1, h2, h3⟩ := putAll_spec (l := r) (acc := putL acc p) (lens_putL ha hp) (fun x hx => hl x (by simp [hx])) (srt_putL ha hp hs)
   refine ⟨h1, h2, fun x => ?_⟩
   have : putAll acc (p :: r) = putAll (putL acc p) r := rfl; rw [this, h3 x, mem_putL ha hp x, List.mem_cons]
   constructor
   · rintro ((h | h) | h) <;> simp [h]
   · rintro (h | h | h) <;> simp [h]
noncomputable def sortU (l:List (List Int)):List (List Int):=putAll [] l
theorem sortU_spec {n:Nat} {l:List (List Int)} (hl:Lens n l):Lens n (sortU l)∧Srt (sortU l)∧∀x,x∈sortU l↔x∈l:=by
 obtain⟨h1,h2,h3⟩:=putAll_spec (l:=l) (acc:=[]) (fun x hx=>by simp at hx) hl List.Pairwise.nil
 exact⟨h1,h2,fun x=>(h3 x).trans (by simp)⟩
theorem sortU_of {n:Nat} {l k:List (List Int)} (hl:Lens n l) (hk:Lens n k) (hs:Srt k) (h:∀x,x∈k↔x∈l):sortU l=k:=by
 obtain⟨h1,h2,h3⟩:=sortU_spec hl
 exact srt_uniq h1 hk h2 hs fun x=>(h3 x).trans (h x).symm
theorem sortU_congr {n:Nat} {l k:List (List Int)} (hl:Lens n l) (hk:Lens n k) (h:∀x,x∈k↔x∈l):sortU l=sortU k:=by
 obtain⟨h1,h2,h3⟩:=sortU_spec hk
 exact sortU_of hl h1 h2 fun x=>(h3 x).trans (h x)
theorem putAll_sortU {n:Nat} {a b:List (List Int)} (ha:Lens n a) (hb:Lens n b):putAll (sortU a) (sortU b)=sortU (a++b):=by
 obtain⟨a1,a2,a3⟩:=sortU_spec ha;obtain⟨b1,b2,b3⟩:=sortU_spec hb;obtain⟨h1,h2,h3⟩:=putAll_spec a1 b1 a2
 refine (sortU_of (n:=n) (fun x hx=>?_) h1 h2 fun x=>?_).symm
 ·rcases List.mem_append.1 hx with h|h
  ·exact ha x h
  ·exact hb x h
 ·rw[h3 x,a3 x,b3 x,List.mem_append]
/-! ### weights -/
def wsum (f:Nat→Int):Nat→List Int→Int
 | _,[]=>0
 | k,x::r=>f k*x+wsum f (k+1) r
theorem wsum_set (f:Nat→Int):∀(p:List Int) (k i:Nat) (x:Int),i<p.length→wsum f k (p.set i x)=wsum f k p+f (k+i)*(x-p.getD i 0)
 | [],_,_,_,h=>by simp at h
 | y :: r, k, 0, x, _ => by
   simp only [List.set_cons_zero, wsum, List.getD_cons_zero, Nat.add_zero, Int.mul_sub]; omega
 | y :: r, k, i + 1, x, h => by
   have ih := wsum_set f r (k + 1) i x (by simpa using h)
   simp only [List.set_cons_succ, wsum, List.getD_cons_succ, ih]
   rw [show k + 1 + i = k + (i + 1) by omega]; omega
theorem wsum_one:∀(p:List Int) (k:Nat),wsum (fun _=>1) k p=p.sum
 | [],_=>rfl
 | x::r,k=>by simp only[wsum,wsum_one r (k+1),List.sum_cons];omega
theorem wsum_nonneg (f:Nat→Int) (hf:∀i,0≤f i):∀(p:List Int) (k:Nat),(∀x∈p,0≤x)→0≤wsum f k p
 | [],_,_=>Int.le_refl _
 | x :: r, k, h => by
   have h1 := Int.mul_nonneg (hf k) (h x (by simp))
   have h2 := wsum_nonneg f hf r (k + 1) fun y hy => h y (by simp [hy])
   simp only [wsum]; omega
def pips (p:List Int):Int:=wsum (fun i=>(i:Int)+1) 0 p
theorem pips_nonneg {p:List Int} (h:∀x∈p,0≤x):0≤pips p:=wsum_nonneg _ (fun i=>by omega) p 0 h
def need (d:Nat) (p:List Int):Int:=wsum (fun i=>(((i+d) / d:Nat):Int)) 0 p
/-! ### steps -/
def stepTo (p:List Int) (i d:Nat):List Int:=if d≤i then (p.set i (p.getD i 0-1)).set (i-d) (p.getD (i-d) 0+1) else p.set i (p.getD i 0-1)
def canP (p:List Int) (i d:Nat):Prop:=p.getD i 0≠0∧(d≤i+1∨(p.drop (i+1)).sum=0)
instance (p:List Int) (i d:Nat):Decidable (canP p i d):=by unfold canP;infer_instance
def stepsN (p:List Int) (d:Nat):Nat→List (List Int)
 | 0=>[]
 | k+1=>stepsN p d k++if canP p k d then [stepTo p k d] else []
def stepsL (p:List Int) (d:Nat):List (List Int):=stepsN p d p.length
theorem mem_stepsN {p:List Int} {d:Nat}:∀{k:Nat} {q:List Int},q∈stepsN p d k↔∃i,i<k∧canP p i d∧q=stepTo p i d
 | 0,q=>by simp[stepsN]
 | k + 1, q => by
   rw [stepsN, List.mem_append, mem_stepsN]
   constructor
   · rintro (⟨i, h1, h2, h3⟩ | h)
     · exact ⟨i, by omega, h2, h3⟩
     · split at h
       · rename_i hc; exact ⟨k, by omega, hc, by simpa using h⟩
       · simp at h
   · rintro ⟨i, h1, h2, h3⟩
     by_cases e : i = k
     · subst e; right; rw [if_pos h2]; simp [h3]
     · exact .inl ⟨i, by omega, h2, h3⟩
theorem mem_stepsL {p:List Int} {d:Nat} {q:List Int}:q∈stepsL p d↔∃i,i<p.length∧canP p i d∧q=stepTo p i d:=mem_stepsN
theorem getD_set_ne {p:List Int} {i j:Nat} {x:Int} (h:i≠j):(p.set i x).getD j 0=p.getD j 0:=by simp[List.getD,List.getElem?_set,h]
theorem stepTo_length (p:List Int) (i d:Nat):(stepTo p i d).length=p.length:=by unfold stepTo;split<;>simp
theorem stepTo_wsum (f:Nat→Int) {p:List Int} {i d:Nat} (hd:1≤d) (hi:i<p.length):wsum f 0 (stepTo p i d)=wsum f 0 p-f i+(if d≤i then f (i-d) else 0):=by
 unfold stepTo
 split
 ·rename_i h
  rw[wsum_set f _ 0 (i-d) _ (by simp;omega),wsum_set f _ 0 i _ hi,getD_set_ne (by omega)]
  simp only[Nat.zero_add]
  have e1:p.getD i 0-1-p.getD i 0 = -1:=by omega
  have e2:p.getD (i-d) 0+1-p.getD (i-d) 0=1:=by omega
  rw[e1,e2];omega
 ·rw[wsum_set f _ 0 i _ hi]
  simp only[Nat.zero_add]
  have e1:p.getD i 0-1-p.getD i 0 = -1:=by omega
  rw[e1];omega
theorem mem_set_nonneg {p:List Int} {i:Nat} {x:Int} (h:∀y∈p,0≤y) (hx:0≤x):∀y∈p.set i x,0≤y:=by
 intro y hy
 rcases List.mem_or_eq_of_mem_set hy with h1|h1
 ·exact h y h1
 ·rw[h1];exact hx
theorem getD_nonneg {p:List Int} (h:∀y∈p,0≤y) (i:Nat):0≤p.getD i 0:=by
 by_cases hi:i<p.length
 ·have:p.getD i 0=p[i]:=by simp[List.getD,hi]
  rw[this];exact h _ (List.getElem_mem hi)
 ·have:p.getD i 0=0:=by simp[List.getD,List.getElem?_eq_none (by omega:p.length≤i)]
  omega
theorem stepTo_nonneg {p:List Int} {i d:Nat} (h:∀y∈p,0≤y) (hc:p.getD i 0≠0):∀y∈stepTo p i d,0≤y:=by
 have h1:=getD_nonneg h i;unfold stepTo
 split
 ·exact mem_set_nonneg (mem_set_nonneg h (by omega)) (by have:=getD_nonneg h (i-d);omega)
 ·exact mem_set_nonneg h (by omega)
theorem stepTo_sum {p:List Int} {i d:Nat} (hd:1≤d) (hi:i<p.length):(stepTo p i d).sum=p.sum-1+(if d≤i then 1 else 0):=by
 have:=stepTo_wsum (fun _=>1) hd hi
 rwa [wsum_one,wsum_one]at this
theorem stepTo_pips {p:List Int} {i d:Nat} (hd:1≤d) (hi:i<p.length):pips (stepTo p i d)<pips p:=by
 have:=stepTo_wsum (fun i=>(i:Int)+1) hd hi
 unfold pips;rw[this]
 split<;>omega
theorem stepTo_need {p:List Int} {i d:Nat} (hd:1≤d) (hi:i<p.length):need d (stepTo p i d)=need d p-1:=by
 have:=stepTo_wsum (fun i=>(((i+d) / d:Nat):Int)) hd hi
 unfold need;rw[this]
 split
 ·rename_i h
  have e:(i-d+d) / d=i / d:=by rw[Nat.sub_add_cancel h]
  have e2:(i+d) / d=i / d+1:=Nat.add_div_right i hd;rw[e,e2];generalize i / d=q
  omega
 ·rename_i h
  have e:(i+d) / d=1:=by rw[Nat.add_div_right _ hd,Nat.div_eq_of_lt (by omega)]
  rw[e];omega
theorem step_pos {h c:Nat} {p q:List Int} {d:Nat} (hd:1≤d) (hp:PosP h c p) (hq:q∈stepsL p d):PosP h c q∧pips q<pips p∧need d q=need d p-1∧p.sum-1≤q.sum∧q.sum≤p.sum:=by
 obtain⟨i,hi,hc,rfl⟩:=mem_stepsL.1 hq;have hs:=stepTo_sum (p:=p) hd hi;have h2:=hp.2.2
 refine⟨⟨by rw[stepTo_length];exact hp.1,stepTo_nonneg hp.2.1 hc.1,?_⟩,stepTo_pips hd hi,stepTo_need hd hi,?_,?_⟩<;>(rw[hs];split<;>omega)
theorem sum_nn:∀{p:List Int},(∀x∈p,0≤x)→0≤p.sum
 | [],_=>by simp
 | x::r,h=>by have:=h x (by simp);have:=sum_nn (p:=r) fun y hy=>h y (by simp[hy]);simp only[List.sum_cons];omega
theorem sum_zero_getD:∀{p:List Int},(∀x∈p,0≤x)→p.sum=0→∀i,p.getD i 0=0
 | [],_,_,i=>by simp[List.getD]
 | x :: r, h, hs, i => by
   have hx := h x (by simp)
   have hr := sum_nn (p := r) fun y hy => h y (by simp [hy])
   simp only [List.sum_cons] at hs
   cases i with
   | zero => simp; omega
   | succ i => simp only [List.getD_cons_succ]; exact sum_zero_getD (fun y hy => h y (by simp [hy])) (by omega) i
theorem getD_zero_sum:∀{p:List Int},(∀i,i<p.length→p.getD i 0=0)→p.sum=0
 | [],_=>rfl
 | x :: r, h => by
   have h0 := h 0 (by simp)
   have := getD_zero_sum (p := r) fun i hi => by have := h (i + 1) (by simpa using hi); simpa using this
   simp only [List.getD_cons_zero] at h0
   simp only [List.sum_cons]; omega
theorem top_exists:∀{p:List Int},(∀x∈p,0≤x)→p.sum≠0→∃i,i<p.length∧p.getD i 0≠0∧(p.drop (i+1)).sum=0
 | [],_,h=>by simp at h
 | x :: r, h, hs => by
   by_cases hr : r.sum = 0
   · exact ⟨0, by simp, by simp only [List.getD_cons_zero]; simp only [List.sum_cons] at hs; omega, by simpa using hr⟩
   · obtain ⟨i, h1, h2, h3⟩ := top_exists (fun y hy => h y (by simp [hy])) hr
     exact ⟨i + 1, by simpa using h1, by simpa using h2, by simpa using h3⟩
theorem steps_some {p:List Int} {d:Nat} (h:∀x∈p,0≤x) (hs:p.sum≠0):stepsL p d≠[]:=by
 obtain⟨i,h1,h2,h3⟩:=top_exists h hs;have:stepTo p i d∈stepsL p d:=mem_stepsL.2 ⟨i,h1,⟨h2,.inr h3⟩,rfl⟩
 intro e;rw[e]at this;simp at this
theorem steps_none {p:List Int} {d:Nat} (h:∀x∈p,0≤x) (hs:p.sum=0):stepsL p d=[]:=by
 rw[List.eq_nil_iff_forall_not_mem]
 intro q hq
 obtain⟨i,hi,hc,_⟩:=mem_stepsL.1 hq
 exact hc.1 (sum_zero_getD h hs i)
/-! ### what dice reach -/
def reach:List Nat→List Int→List (List Int)
 | [],p=>[p]
 | d::ds,p=>if p.sum=0 then [p] else (stepsL p d).flatMap (reach ds)
theorem reach_nil (p:List Int):reach [] p=[p]:=rfl
theorem reach_cons (d:Nat) (ds:List Nat) (p:List Int):reach (d::ds) p=if p.sum=0 then [p] else (stepsL p d).flatMap (reach ds):=rfl
theorem reach_pos {h c:Nat}:∀{ds:List Nat} {p:List Int},(∀d∈ds,1≤d)→PosP h c p→∀q∈reach ds p,PosP h c q∧pips q≤pips p∧(ds≠[]→p.sum≠0→pips q<pips p)
 | [], p, _, hp, q, hq => by
   have : q = p := by simpa [reach_nil] using hq
   subst this; exact ⟨hp, Int.le_refl _, fun h => absurd rfl h⟩
 | d :: ds, p, hd, hp, q, hq => by
   rw [reach_cons] at hq
   split at hq
   · rename_i h0
     have : q = p := by simpa using hq
     subst this; exact ⟨hp, Int.le_refl _, fun _ h => absurd h0 h⟩
   · obtain ⟨m, hm, hqm⟩ := List.mem_flatMap.1 hq
     obtain ⟨h1, h2, _⟩ := step_pos (hd d (by simp)) hp hm
     obtain ⟨h3, h4, _⟩ := reach_pos (fun d hd' => hd d (by simp [hd'])) h1 q hqm
     exact ⟨h3, by omega, fun _ _ => by omega⟩
theorem reach_lens {h c:Nat} {ds:List Nat} {p:List Int} (hd:∀d∈ds,1≤d) (hp:PosP h c p):Lens h (reach ds p):=fun q hq=>(reach_pos hd hp q hq).1.1
theorem reach_some {h c:Nat}:∀{ds:List Nat} {p:List Int},(∀d∈ds,1≤d)→PosP h c p→reach ds p≠[]
 | [],p,_,_=>by simp[reach_nil]
 | d :: ds, p, hd, hp => by
   rw [reach_cons]
   split
   · simp
   · rename_i h0
     obtain ⟨m, hm⟩ := List.exists_mem_of_ne_nil _ (steps_some (d := d) hp.2.1 h0)
     have := reach_some (ds := ds) (fun d hd' => hd d (by simp [hd'])) (step_pos (hd d (by simp)) hp hm).1
     obtain ⟨q, hq⟩ := List.exists_mem_of_ne_nil _ this
     exact fun e => by have := List.mem_flatMap.2 ⟨m, hm, hq⟩; rw [e] at this; simp at this
def Uni:List Nat→List Int→Nat→Prop
 | [],_,n=>n=0
 | d::ds,p,n=>if p.sum=0 then n=0 else ∃m,n=m+1∧∀q∈stepsL p d,Uni ds q m
theorem uni_zero {ds:List Nat} {p:List Int} (h:p.sum=0):Uni ds p 0:=by
 cases ds with
 | nil=>rfl
 | cons d ds=>unfold Uni;rw[if_pos h]
theorem need_nonneg {p:List Int} (d:Nat) (h:∀x∈p,0≤x):0≤need d p:=wsum_nonneg _ (fun i=>Int.natCast_nonneg _) p 0 h
theorem wsum_zero (f:Nat→Int):∀(p:List Int) (k:Nat),(∀x∈p,0≤x)→p.sum=0→wsum f k p=0
 | [],_,_,_=>rfl
 | x :: r, k, h, hs => by
   have hx := h x (by simp)
   have hr := sum_nn (p := r) fun y hy => h y (by simp [hy])
   simp only [List.sum_cons] at hs
   have hx0 : x = 0 := by omega
   simp only [wsum, wsum_zero f r (k + 1) (fun y hy => h y (by simp [hy])) (by omega), hx0]; simp
theorem uni_double {h c:Nat} {d:Nat} (hd:1≤d):∀(n:Nat) {p:List Int},PosP h c p→∃m:Nat,(m:Int)=min (n:Int) (need d p)∧Uni (List.replicate n d) p m
 | 0,p,hp=>⟨0,by have:=need_nonneg d hp.2.1;omega,rfl⟩
 | n + 1, p, hp => by
   by_cases h0 : p.sum = 0
   · refine ⟨0, ?_, uni_zero h0⟩
     have : need d p = 0 := wsum_zero _ p 0 hp.2.1 h0
     omega
   · obtain ⟨q, hq⟩ := List.exists_mem_of_ne_nil _ (steps_some (d := d) hp.2.1 h0)
     obtain ⟨hq1, _, hq3, _⟩ := step_pos hd hp hq; obtain ⟨m, hm, _⟩ := uni_double hd n hq1; have := need_nonneg d hq1.2.1
     refine ⟨m + 1, by omega, ?_⟩
     rw [List.replicate_succ]; unfold Uni; rw [if_neg h0]
     refine ⟨m, rfl, fun r hr => ?_⟩
     obtain ⟨hr1, _, hr3, _⟩ := step_pos hd hp hr; obtain ⟨k, hk, hu⟩ := uni_double hd n hr1
     have : k = m := by omega
     rw [← this]; exact hu
theorem one_checker {p:List Int} (h:∀x∈p,0≤x) (hs:p.sum=1):∀{i j:Nat},p.getD i 0≠0→p.getD j 0≠0→i=j:=by
 induction p with
 | nil=>simp at hs
 | cons x r ih =>
   intro i j hi hj
   have hx := h x (by simp)
   have hr := fun y hy => h y (List.mem_cons_of_mem _ hy)
   have hr0 := sum_nn hr
   simp only [List.sum_cons] at hs
   by_cases hx0 : x = 0
   · cases i with
     | zero => simp [hx0] at hi
     | succ i =>
       cases j with
       | zero => simp [hx0] at hj
       | succ j => exact congrArg (· + 1) (ih hr (by omega) (by simpa using hi) (by simpa using hj))
   · have h0 := sum_zero_getD hr (by omega)
     cases i with
     | zero =>
       cases j with
       | zero => rfl
       | succ j => rw [List.getD_cons_succ] at hj; exact absurd (h0 j) hj
     | succ i => rw [List.getD_cons_succ] at hi; exact absurd (h0 i) hi
theorem uni_pair {h c:Nat} {a b:Nat} (ha:1≤a) {p:List Int} (hp:PosP h c p) (h0:p.sum≠0):
  Uni [a,b] p (if p.sum=1∧∃q∈stepsL p a,q.sum=0 then 1 else 2):=by
 unfold Uni;rw[if_neg h0];have hs:=sum_nn hp.2.1
 split
 ·rename_i hc
  refine⟨0,rfl,fun q hq=>?_⟩
  obtain⟨q0,hq0,hz⟩:=hc.2
  have:q=q0:=by
   obtain⟨i,hi,hci,rfl⟩:=mem_stepsL.1 hq;obtain⟨j,hj,hcj,rfl⟩:=mem_stepsL.1 hq0;rw[one_checker hp.2.1 hc.1 hci.1 hcj.1]
  rw[this];exact uni_zero hz
 ·rename_i hc
  refine⟨1,rfl,fun q hq=>?_⟩
  obtain⟨_,_,_,h1,_⟩:=step_pos ha hp hq
  have hq0:q.sum≠0:=by
   intro e
   exact hc ⟨by omega,q,hq,e⟩
  unfold Uni;rw[if_neg hq0]
  exact⟨0,rfl,fun r _=>rfl⟩
/-! ### the results of a roll -/
def dice (a b:Nat):List (List Nat):=if a=b then [[a,a,a,a]] else [[a,b],[b,a]]
noncomputable def resultsL (p:List Int) (a b:Nat):List (List Int):=sortU ((dice a b).flatMap fun ds=>reach ds p)
theorem dice_pos {a b:Nat} (ha:1≤a) (hb:1≤b):∀ds∈dice a b,(∀d∈ds,1≤d)∧ds≠[]:=by
 intro ds hds
 unfold dice at hds
 split at hds<;>simp at hds
 ·subst hds;simp[ha]
 ·rcases hds with rfl|rfl<;>simp[ha,hb]
theorem flat_lens {h c:Nat} {a b:Nat} {p:List Int} (ha:1≤a) (hb:1≤b) (hp:PosP h c p):Lens h ((dice a b).flatMap fun ds=>reach ds p):=by
 intro q hq
 obtain⟨ds,hds,hq⟩:=List.mem_flatMap.1 hq
 exact reach_lens (dice_pos ha hb ds hds).1 hp q hq
theorem results_mem {h c:Nat} {a b:Nat} {p:List Int} (ha:1≤a) (hb:1≤b) (hp:PosP h c p) (q:List Int):q∈resultsL p a b↔∃ds∈dice a b,q∈reach ds p:=by
 unfold resultsL;rw[(sortU_spec (flat_lens ha hb hp)).2.2 q,List.mem_flatMap]
theorem results_pos {h c:Nat} {a b:Nat} {p:List Int} (ha:1≤a) (hb:1≤b) (hp:PosP h c p):∀q∈resultsL p a b,PosP h c q∧pips q≤pips p∧(p.sum≠0→pips q<pips p):=by
 intro q hq
 obtain⟨ds,hds,hq⟩:=(results_mem ha hb hp q).1 hq;obtain⟨h1,h2⟩:=dice_pos ha hb ds hds;obtain⟨r1,r2,r3⟩:=reach_pos h1 hp q hq
 exact⟨r1,r2,r3 h2⟩
theorem results_some {h c:Nat} {a b:Nat} {p:List Int} (ha:1≤a) (hb:1≤b) (hp:PosP h c p):resultsL p a b≠[]:=by
 have hex:∃ds,ds∈dice a b:=by
  unfold dice;split
  ·exact⟨_,List.mem_singleton.2 rfl⟩
  ·exact⟨_,List.mem_cons.2 (.inl rfl)⟩
 obtain⟨ds,hds⟩:=hex;obtain⟨q,hq⟩:=List.exists_mem_of_ne_nil _ (reach_some (dice_pos ha hb ds hds).1 hp);have:=(results_mem ha hb hp q).2 ⟨ds,hds,hq⟩
 intro e;rw[e]at this;simp at this
/-! the program's rows -/
def adv (d:Nat) (q:List Int):List (List Int):=if q.sum=0 then [q] else stepsL q d
noncomputable def rowL:List Nat→List (List Int)→List (List Int)
 | [],row=>row
 | d::ds,row=>rowL ds (sortU (row.flatMap (adv d)))
theorem adv_pos {h c:Nat} {d:Nat} {q r:List Int} (hd:1≤d) (hq:PosP h c q) (hr:r∈adv d q):PosP h c r:=by
 unfold adv at hr
 split at hr
 ·have:r=q:=by simpa using hr
  rw[this];exact hq
 ·exact (step_pos hd hq hr).1
theorem reach_zero (ds:List Nat) {p:List Int} (h:p.sum=0):reach ds p=[p]:=by
 cases ds with
 | nil=>rfl
 | cons d ds=>rw[reach_cons,if_pos h]
theorem mem_adv {d:Nat} {ds:List Nat} {p x:List Int}:(∃m∈adv d p,x∈reach ds m)↔x∈reach (d::ds) p:=by
 rw[reach_cons];unfold adv
 split
 ·rename_i h0
  constructor
  ·rintro⟨m,hm,hx⟩
   have:m=p:=by simpa using hm
   rw[this,reach_zero ds h0]at hx;exact hx
  ·intro hx
   exact⟨p,by simp,by rw[reach_zero ds h0];exact hx⟩
 ·exact List.mem_flatMap.symm
theorem rowL_spec {h c:Nat}:∀{ds:List Nat} {row:List (List Int)},(∀d∈ds,1≤d)→(∀p∈row,PosP h c p)→(∀x,x∈rowL ds row↔∃p∈row,x∈reach ds p)∧∀x∈rowL ds row,PosP h c x
 | [],row,_,hr=>⟨fun x=>by simp[rowL,reach_nil],fun x hx=>hr x hx⟩
 | d :: ds, row, hd, hr => by
   have hd1 := hd d (by simp)
   have hf : ∀ x ∈ row.flatMap (adv d), PosP h c x := fun x hx => by
     obtain ⟨p, hp, hx⟩ := List.mem_flatMap.1 hx
     exact adv_pos hd1 (hr p hp) hx
   have hs := sortU_spec (n := h) (l := row.flatMap (adv d)) fun x hx => (hf x hx).1
   obtain ⟨ih1, ih2⟩ := rowL_spec (ds := ds) (row := sortU (row.flatMap (adv d))) (fun e he => hd e (by simp [he])) fun x hx => hf x ((hs.2.2 x).1 hx)
   refine ⟨fun x => ?_, ih2⟩
   show x ∈ rowL ds (sortU (row.flatMap (adv d))) ↔ _
   rw [ih1 x]
   constructor
   · rintro ⟨m, hm, hx⟩
     obtain ⟨p, hp, hmp⟩ := List.mem_flatMap.1 ((hs.2.2 m).1 hm)
     exact ⟨p, hp, mem_adv.1 ⟨m, hmp, hx⟩⟩
   · rintro ⟨p, hp, hx⟩
     obtain ⟨m, hm, hx⟩ := mem_adv.2 hx
     exact ⟨m, (hs.2.2 m).2 (List.mem_flatMap.2 ⟨p, hp, hm⟩), hx⟩
theorem rows_results {h c:Nat} {a b:Nat} {p:List Int} (ha:1≤a) (hb:1≤b) (hp:PosP h c p):sortU ((dice a b).flatMap fun ds=>rowL ds [p])=resultsL p a b:=by
 have key:∀ds∈dice a b,(∀x,x∈rowL ds [p]↔x∈reach ds p)∧∀x∈rowL ds [p],PosP h c x:=fun ds hds=>by
  obtain ⟨h1, h2⟩ := rowL_spec (row := [p]) (dice_pos ha hb ds hds).1 (fun q hq => by have : q = p := by simpa using hq
                                                                                      rw [this]; exact hp)
  exact⟨fun x=>(h1 x).trans (by simp),h2⟩
 refine sortU_congr (n:=h) (fun x hx=>?_) (flat_lens ha hb hp) fun x=>?_
 ·obtain⟨ds,hds,hx⟩:=List.mem_flatMap.1 hx
  exact ((key ds hds).2 x hx).1
 ·rw[List.mem_flatMap,List.mem_flatMap]
  constructor
  ·rintro⟨ds,hds,hx⟩;exact⟨ds,hds,((key ds hds).1 x).2 hx⟩
  ·rintro⟨ds,hds,hx⟩;exact⟨ds,hds,((key ds hds).1 x).1 hx⟩
end Go.Proofs.YtkaiilmgemaljaaGreat.Ps
/- Plain facts on races: sums, multiples and means of exact numbers in normal form, the win chance as a function of two positions. No program is in sight; there are no conditions. -/
namespace Go.Proofs.YtkaiilmgemaljaaGreat.Ra
open Go.Proofs.YtkaiilmgemaljaaGreat.Ex Go.Proofs.YtkaiilmgemaljaaGreat.Ps
/-! ### numbers -/
def addE (B:Int) (x y:E):Option E:=mk B (x.num*pw B (max x.depth y.depth-x.depth)+y.num*pw B (max x.depth y.depth-y.depth)) (max x.depth y.depth)
def sclE (B:Int) (x:E) (k:Int):Option E:=mk B (x.num*k) x.depth
def negE (x:E):E:=⟨-x.num,x.depth⟩
def oneE:E:=⟨1,0⟩
def zeroE':E:=⟨0,0⟩
def oneM (B:Int) (x:E):Option E:=addE B oneE (negE x)
def ltE (B:Int) (x y:E):Bool:=decide (x.num*pw B y.depth<y.num*pw B x.depth)
theorem mk_isVal {B:Int} (hB:1≤B) {n:Int} {d:Nat} {x:E} (h:mk B n d=some x):Val B x:=(mk_val hB h).1
theorem addE_val {B:Int} (hB:1≤B) {x y z:E} (h:addE B x y=some z):Val B z:=mk_isVal hB h
theorem sclE_val {B:Int} (hB:1≤B) {x z:E} {k:Int} (h:sclE B x k=some z):Val B z:=mk_isVal hB h
theorem one_val {B:Int}:Val B oneE:=⟨by decide,by decide,by show (1:Int)≤_;decide,.inl rfl,fun _=>rfl⟩
theorem zero_val {B:Int}:Val B zeroE':=⟨by decide,by decide,by show (1:Int)≤_;decide,.inl rfl,fun _=>rfl⟩
theorem neg_val {B:Int} {x:E} (h:Val B x):Val B (negE x):=by
 obtain⟨h1,h2,h3,h4,h5⟩:=h
 refine⟨?_,?_,h3,?_,h5⟩
 ·show -maxNum≤-x.num;omega
 ·show -x.num≤maxNum;omega
 ·rcases h4 with h4|h4
  ·exact .inl h4
  ·exact .inr fun hd=>h4 ((Int.dvd_neg).1 hd)
/-! ### rolls -/
def rowN (a:Nat):Nat→List (Nat×Nat)
 | 0=>[]
 | k+1=>rowN a k++[(a,k+1)]
def rollsN:Nat→List (Nat×Nat)
 | 0=>[]
 | a+1=>rollsN a++rowN (a+1) (a+1)
theorem rowN_length (a:Nat):∀k,(rowN a k).length=k
 | 0=>rfl
 | k+1=>by simp[rowN,rowN_length a k]
theorem rollsN_length:∀a,(rollsN a).length*2=a*(a+1)
 | 0=>rfl
 | a + 1 => by
   have := rollsN_length a
   simp only [rollsN, List.length_append, rowN_length]
   rw [Nat.add_mul, this]
   simp only [Nat.mul_add, Nat.add_mul]; omega
theorem mem_rowN {a k:Nat} {r:Nat×Nat}:r∈rowN a k↔r.1=a∧1≤r.2∧r.2≤k:=by
 induction k with
 | zero=>simp[rowN];omega
 | succ k ih =>
   rw [rowN, List.mem_append, ih]; obtain ⟨x, y⟩ := r
   simp only [List.mem_singleton, Prod.mk.injEq]
   omega
theorem mem_rollsN {s:Nat} {r:Nat×Nat}:r∈rollsN s↔1≤r.2∧r.2≤r.1∧r.1≤s:=by
 induction s with
 | zero=>simp[rollsN];omega
 | succ s ih=>rw[rollsN,List.mem_append,ih,mem_rowN];omega
def weight (r:Nat×Nat):Int:=if r.1=r.2 then 1 else 2
/-! ### means -/
def sumE (B:Int) (l:List ((Nat×Nat)×E)):Option E:=l.foldl (fun s rx=>s.bind fun t=>(sclE B rx.2 (weight rx.1)).bind fun x=>addE B t x) (some zeroE')
def meanE (B:Int) (rs:List (Nat×Nat)) (xs:List E):Option E:=(sumE B (rs.zip xs)).bind fun t=>mk B t.num (t.depth+1)
theorem sumE_snoc (B:Int) (l:List ((Nat×Nat)×E)) (r:Nat×Nat) (x:E):sumE B (l++[(r,x)])=(sumE B l).bind fun t=>(sclE B x (weight r)).bind fun y=>addE B t y:=by
 unfold sumE;rw[List.foldl_append];rfl
theorem foldl_none {α β:Type} (f:α→β→Option α):∀(l:List β),l.foldl (fun s b=>s.bind fun t=>f t b) none=none
 | []=>rfl
 | _::r=>foldl_none f r
theorem sumE_none {B:Int} {l k:List ((Nat×Nat)×E)} (h:sumE B l=none):sumE B (l++k)=none:=by
 unfold sumE at h ⊢;rw[List.foldl_append,h]
 exact foldl_none (fun t (rx:(Nat×Nat)×E)=>(sclE B rx.2 (weight rx.1)).bind fun x=>addE B t x) k
theorem sumE_val {B:Int} (hB:1≤B) {l:List ((Nat×Nat)×E)} {t:E} (h:sumE B l=some t):Val B t:=by
 rcases List.eq_nil_or_concat l with rfl|⟨k,rx,rfl⟩
 ·have:t=zeroE':=by unfold sumE at h;simpa using h.symm
  rw[this];exact zero_val
 ·obtain⟨r,x⟩:=rx
  rw[List.concat_eq_append,sumE_snoc]at h
  cases hs:sumE B k with
  | none=>rw[hs]at h;cases h
  | some u =>
    rw [hs] at h
    simp only [Option.bind_some] at h
    cases hm : sclE B x (weight r) with
    | none => rw [hm] at h; cases h
    | some y => rw [hm] at h; exact addE_val hB h
/-! ### the best of some positions -/
def bestS (B:Int) (f:List Int→Option E) (l:List (List Int)):Option (Nat×Nat×E):=
 l.foldl (fun s q=>s.bind fun t=>(f q).map fun x=>if t.1=0∨ltE B t.2.2 x then (t.1+1,t.1,x) else (t.1+1,t.2.1,t.2.2)) (some (0,0,zeroE'))
theorem bestS_nil (B:Int) (f:List Int→Option E):bestS B f []=some (0,0,zeroE'):=rfl
theorem bestS_snoc (B:Int) (f:List Int→Option E) (l:List (List Int)) (q:List Int):
  bestS B f (l++[q])=(bestS B f l).bind fun t=>(f q).map fun x=>if t.1=0∨ltE B t.2.2 x then (t.1+1,t.1,x) else (t.1+1,t.2.1,t.2.2):=by
 unfold bestS;rw[List.foldl_append];rfl
theorem bestS_none {B:Int} {f:List Int→Option E} {l k:List (List Int)} (h:bestS B f l=none):bestS B f (l++k)=none:=by
 unfold bestS at h ⊢;rw[List.foldl_append,h];clear h
 induction k with
 | nil=>rfl
 | cons q r ih=>exact ih
theorem bestS_count {B:Int} {f:List Int→Option E} {l:List (List Int)} {t:Nat×Nat×E} (h:bestS B f l=some t):t.1=l.length∧(t.2.1<l.length∨l=[]):=by
 induction l using snoc_ind generalizing t with
 | nil=>rw[bestS_nil]at h;injection h with h;subst h;exact⟨rfl,.inr rfl⟩
 | snoc l q ih =>
   rw [bestS_snoc] at h
   cases hs : bestS B f l with
   | none => rw [hs] at h; cases h
   | some u =>
     rw [hs] at h; obtain ⟨i1, i2⟩ := ih hs
     cases hf : f q with
     | none => rw [hf] at h; cases h
     | some x =>
       rw [hf] at h
       simp only [Option.bind_some, Option.map_some, Option.some.injEq] at h
       subst h
       split
       · simp [i1]
       · simp only [List.length_append, List.length_singleton]
         refine ⟨by omega, .inl ?_⟩
         rcases i2 with i2 | i2
         · omega
         · rename_i hc; subst i2; simp at i1; exact absurd (.inl i1) hc
theorem bestS_congr {B:Int} {f g:List Int→Option E}:∀{l:List (List Int)},(∀q∈l,f q=g q)→bestS B f l=bestS B g l:=by
 intro l
 induction l using snoc_ind with
 | nil=>intro _;rfl
 | snoc l q ih =>
   intro h
   rw [bestS_snoc, bestS_snoc, ih fun p hp => h p (by simp [hp]), h q (by simp)]
/-! ### win chances -/
def allS (g:Nat×Nat→Option E) (l:List (Nat×Nat)):Option (List E):=l.foldl (fun s r=>s.bind fun t=>(g r).map fun x=>t++[x]) (some [])
theorem allS_snoc (g:Nat×Nat→Option E) (l:List (Nat×Nat)) (r:Nat×Nat):allS g (l++[r])=(allS g l).bind fun t=>(g r).map fun x=>t++[x]:=by
 unfold allS;rw[List.foldl_append];rfl
theorem allS_none {g:Nat×Nat→Option E} {l k:List (Nat×Nat)} (h:allS g l=none):allS g (l++k)=none:=by
 unfold allS at h ⊢;rw[List.foldl_append,h];clear h
 induction k with
 | nil=>rfl
 | cons q r ih=>exact ih
theorem allS_congr {f g:Nat×Nat→Option E}:∀{l:List (Nat×Nat)},(∀q∈l,f q=g q)→allS f l=allS g l:=by
 intro l
 induction l using snoc_ind with
 | nil=>intro _;rfl
 | snoc l q ih =>
   intro h
   rw [allS_snoc, allS_snoc, ih fun p hp => h p (by simp [hp]), h q (by simp)]
theorem allS_length {g:Nat×Nat→Option E} {l:List (Nat×Nat)} {t:List E} (h:allS g l=some t):t.length=l.length:=by
 induction l using snoc_ind generalizing t with
 | nil=>unfold allS at h;simp at h;subst h;rfl
 | snoc l q ih =>
   rw [allS_snoc] at h
   cases hs : allS g l with
   | none => rw [hs] at h; cases h
   | some u =>
     rw [hs] at h
     cases hf : g q with
     | none => rw [hf] at h; cases h
     | some x =>
       rw [hf] at h
       simp only [Option.bind_some, Option.map_some, Option.some.injEq] at h
       subst h
       simp [ih hs]
noncomputable def val (s:Nat):Nat→List Int→List Int→Option E
 | 0,_,_=>none
 | f + 1, own, other =>
   if own.sum = 0 then some oneE else if other.sum = 0 then some zeroE' else
     (allS (fun r => (bestS (s * s) (fun q => (val s f other q).bind (oneM (s * s))) (resultsL own r.1 r.2)).map fun t => t.2.2) (rollsN s)).bind (meanE (s * s) (rollsN s))
noncomputable def fuel (own other:List Int):Nat:=(pips own+pips other).toNat+1
noncomputable def win (s:Nat) (own other:List Int):Option E:=val s (fuel own other) own other
noncomputable def sec (s:Nat) (other q:List Int):Option E:=(win s other q).bind (oneM (s*s))
noncomputable def best (s:Nat) (own other:List Int) (r:Nat×Nat):Option (Nat×Nat×E):=bestS (s*s) (sec s other) (resultsL own r.1 r.2)
theorem val_fuel {h c s:Nat}:∀(f g:Nat) {own other:List Int},PosP h c own→PosP h c other→pips own+pips other<f→pips own+pips other<g→val s f own other=val s g own other
 | 0,_,own,other,ho,ht,h1,_=>by have:=pips_nonneg ho.2.1;have:=pips_nonneg ht.2.1;omega
 | _+1,0,own,other,ho,ht,_,h2=>by have:=pips_nonneg ho.2.1;have:=pips_nonneg ht.2.1;omega
 | f + 1, g + 1, own, other, ho, ht, h1, h2 => by
   unfold val
   by_cases h0 : own.sum = 0
   · rw [if_pos h0, if_pos h0]
   · rw [if_neg h0, if_neg h0]
     split
     · rfl
     · congr 1
       refine allS_congr fun r hr => ?_
       obtain ⟨r1, r2, r3⟩ := mem_rollsN.1 hr
       congr 1
       refine bestS_congr fun q hq => ?_
       obtain ⟨q1, q2, q3⟩ := results_pos (by omega) r1 ho q hq
       have := q3 h0
       rw [val_fuel f g ht q1 (by omega) (by omega)]
theorem win_eq {h c s:Nat} {own other:List Int} (ho:PosP h c own) (ht:PosP h c other) (h0:own.sum≠0) (h1:other.sum≠0):
  win s own other=(allS (fun r=>(best s own other r).map fun t=>t.2.2) (rollsN s)).bind (meanE (s*s) (rollsN s)):=by
 have hp:=pips_nonneg ho.2.1;have hq:=pips_nonneg ht.2.1;unfold win fuel val;rw[if_neg h0,if_neg h1]
 congr 1
 refine allS_congr fun r hr=>?_
 obtain⟨r1,r2,r3⟩:=mem_rollsN.1 hr;unfold best
 congr 1
 refine bestS_congr fun q hq=>?_
 obtain⟨q1,q2,q3⟩:=results_pos (by omega) r1 ho q hq
 have:=q3 h0;have:=pips_nonneg q1.2.1;unfold sec win
 rw[val_fuel _ (fuel other q) ht q1 (by omega) (by unfold fuel;omega)]
theorem win_own {s:Nat} {own other:List Int} (h0:own.sum=0):win s own other=some oneE:=by unfold win fuel val;rw[if_pos h0]
theorem win_other {s:Nat} {own other:List Int} (h0:own.sum≠0) (h1:other.sum=0):win s own other=some zeroE':=by unfold win fuel val;rw[if_neg h0,if_pos h1]
end Go.Proofs.YtkaiilmgemaljaaGreat.Ra
/- Plain facts on the wys in which the program and the reference reckon with exact numbers. No program is in sight; there are no conditions. -/
namespace Go.Proofs.YtkaiilmgemaljaaGreat.Ra
open Go.Proofs.YtkaiilmgemaljaaGreat.Ex Go.Proofs.YtkaiilmgemaljaaGreat.Ps
/-! ### powers -/
theorem pw_base_mono {A B:Int} (hA:1≤A) (h:A≤B) (k:Nat):pw A k≤pw B k:=by
 induction k with
 | zero=>exact Int.le_refl _
 | succ k ih =>
   rw [pw_succ, pw_succ]; have h1 := pw_pos hA k
   exact Int.mul_le_mul ih h (by omega) (by omega)
theorem pw_big {B:Int} (hB:2≤B) {d:Nat} (h:50≤d):maxScale<pw B d:=by
 have h1:=pw_base_mono (by omega) hB d
 have h2:=pw_mono (B:=2) (by omega) h
 have h3:maxScale<pw 2 50:=by decide
 omega
theorem depth_lt {B:Int} {x:E} (hB:1≤B) (h:Val B x):x.depth<50:=by
 rcases Int.lt_or_le 1 B with h1|h1
 ·apply Nat.lt_of_not_le
  intro hd
  have:=pw_big (B:=B) (by omega) hd
  have:=h.2.2.1
  omega
 ·have:B=1:=by omega
  have:=h.2.2.2.2 this
  omega
def sq (s:Nat):Int:=(s:Int)*s
theorem sq_bd {s:Nat} (h1:1≤s) (h6:s≤6):1≤sq s∧sq s≤36∧(sq s=1∨4≤sq s):=by
 obtain rfl|rfl|rfl|rfl|rfl|rfl:s=1∨s=2∨s=3∨s=4∨s=5∨s=6:=by omega
 all_goals decide
/-! ### validity -/
def valB (B n:Int) (d:Nat):Bool:=decide (Val B ⟨n,d⟩)
theorem valB_yes {B n:Int} {d:Nat}:valB B n d=true↔Val B ⟨n,d⟩:=by unfold valB;exact decide_eq_true_iff
theorem valB_far {B n:Int} {d:Nat} (h:n < -maxNum∨maxNum<n):valB B n d=false:=decide_eq_false fun⟨h1,h2,_⟩=>by simp at h1 h2;omega
theorem valB_zero {B n:Int} (h1 : -maxNum≤n) (h2:n≤maxNum):valB B n 0=true:=decide_eq_true ⟨h1,h2,by show (1:Int)≤maxScale;decide,.inl rfl,fun _=>rfl⟩
theorem valB_one {n:Int} {d:Nat} (h:d≠0):valB 1 n d=false:=decide_eq_false fun⟨_,_,_,_,h5⟩=>h (h5 rfl)
theorem valB_deep {B n:Int} {d:Nat} (h:maxScale<pw B d):valB B n d=false:=decide_eq_false fun⟨_,_,h3,_⟩=>by simp at h3;omega
theorem valB_dvd {B n:Int} {d:Nat} (hd:d≠0) (h:B ∣ n):valB B n d=false:=decide_eq_false fun⟨_,_,_,h4,_⟩=>h4.elim (fun h0=>hd h0) fun h0=>h0 h
theorem valB_mk {B n:Int} {d:Nat} (h1 : -maxNum≤n) (h2:n≤maxNum) (h3:pw B d≤maxScale) (h4:¬B ∣ n) (h5:B≠1):valB B n d=true:=decide_eq_true ⟨h1,h2,h3,.inr h4,fun h=>absurd h h5⟩
theorem tmod_zero {n B:Int}:n.tmod B=0↔B ∣ n:=(Int.dvd_iff_tmod_eq_zero).symm
theorem tdiv_dvd {n B:Int} (h:B ∣ n):n.tdiv B=n / B:=Int.tdiv_eq_ediv_of_dvd h
/-! ### striking factors -/
theorem strip_go {B n:Int} {d:Nat} (h:B ∣ n):strip B (d+1) n=strip B d (n / B):=by show (if B ∣ n then _ else _)=_;rw[if_pos h]
theorem strip_stop {B n:Int} {d:Nat} (h:¬B ∣ n):strip B (d+1) n=⟨n,d+1⟩:=by show (if B ∣ n then _ else _)=_;rw[if_neg h]
theorem mk_strip {B n:Int} {d:Nat} {m:Int} {e:Nat} (h:strip B d n=⟨m,e⟩):mk B n d=if valB B m e then some ⟨m,e⟩ else none:=by
 unfold mk;rw[h]
 by_cases hv:Val B ⟨m,e⟩
 ·rw[if_pos hv,if_pos (valB_yes.2 hv)]
 ·rw[if_neg hv,if_neg fun h=>hv (valB_yes.1 h)]
theorem mk_one (n:Int) (d:Nat):mk 1 n d=mk 1 n 0:=by unfold mk;rw[strip_one,strip_one]
theorem strip_of_low {B n:Int} {d:Nat} (h:Low B ⟨n,d⟩):strip B d n=⟨n,d⟩:=by
 cases d with
 | zero=>rfl
 | succ d =>
   rcases h with h | h
   · exact absurd h (by simp)
   · exact strip_stop h
theorem mk_self {B:Int} {x:E} (h:Val B x):mk B x.num x.depth=some x:=by
 rw[mk_strip (strip_of_low h.2.2.2.1),if_pos (valB_yes.2 h)]
/-! ### sums -/
theorem addE_le {B:Int} {x y:E} (h:x.depth≤y.depth):addE B x y=mk B (x.num*pw B (y.depth-x.depth)+y.num) y.depth:=by
 unfold addE;rw[Nat.max_eq_right h,Nat.sub_self,pw_zero,Int.mul_one]
theorem addE_comm (B:Int) (x y:E):addE B x y=addE B y x:=by
 unfold addE;rw[Nat.max_comm y.depth x.depth,Int.add_comm]
theorem addE_far {B:Int} (hB:1≤B) {x y:E} (hy:Val B y) {j:Nat} (hj:j<y.depth-x.depth) (hf:4*maxNum<x.num*pw B j*B∨x.num*pw B j*B < -(4*maxNum)):addE B x y=none:=by
 rw[addE_le (by omega)]
 obtain⟨h1,h2,_,h4,_⟩:=hy
 have hd:B ∣ x.num*pw B (y.depth-x.depth):=by
  obtain⟨k,hk⟩:∃k,y.depth-x.depth=k+1:=⟨y.depth-x.depth-1,by omega⟩
  rw[hk,pw_succ,← Int.mul_assoc];exact Int.dvd_mul_left _ _
 have hn:¬B ∣ x.num*pw B (y.depth-x.depth)+y.num:=by
  intro h
  have:B ∣ y.num:=(Int.dvd_add_right hd).1 h
  rcases h4 with h4|h4
  ·omega
  ·exact h4 this
 have hs:strip B y.depth (x.num*pw B (y.depth-x.depth)+y.num)=⟨_,y.depth⟩:=strip_of_low (.inr hn);rw[mk_strip hs,if_neg];rw[Bool.not_eq_true]
 apply valB_far
 have e:x.num*pw B (y.depth-x.depth)=x.num*pw B j*B*pw B (y.depth-x.depth-(j+1)):=by
  rw[Int.mul_assoc,Int.mul_assoc,← Int.mul_assoc (pw B j),← pw_succ,← pw_add]
  congr 2;omega
 have hp:=pw_pos hB (y.depth-x.depth-(j+1));generalize x.num*pw B j*B=u at *;generalize pw B (y.depth-x.depth-(j+1))=q at *;have hm:maxNum=1000000000000000000:=rfl;rw[e]
 rcases hf with hf|hf
 ·have:u*1≤u*q:=Int.mul_le_mul_of_nonneg_left hp (by omega)
  omega
 ·have:(-u)*1≤(-u)*q:=Int.mul_le_mul_of_nonneg_left hp (by omega)
  rw[Int.neg_mul,Int.neg_mul]at this
  omega
/-! ### fractions in lowest terms -/
theorem fit_low {B p q:Int} {d:Nat} (hB:1≤B) (hq:1≤q) (hc:Int.gcd p q=1) (h1:q ∣ pw B d) (h2:∀k,k<d→¬q ∣ pw B k):Low B ⟨p*(pw B d / q),d⟩:=by
 cases d with
 | zero=>exact .inl rfl
 | succ d =>
   refine .inr fun hd => ?_
   obtain ⟨m, hm⟩ := h1
   have e : pw B (d + 1) / q = m := by rw [hm]; exact Int.mul_ediv_cancel_left _ (by omega)
   rw [e] at hd; obtain ⟨t, ht⟩ := hd
   simp only at ht
   have h3 : p * pw B d = q * t := by
     apply Int.eq_of_mul_eq_mul_right (a := B) (by omega)
     rw [Int.mul_assoc, ← pw_succ, hm, Int.mul_left_comm, ht, Int.mul_comm B t, Int.mul_assoc]
   have h4 : q.natAbs ∣ p.natAbs * (pw B d).natAbs := by rw [← Int.natAbs_mul, h3, Int.natAbs_mul]; exact Nat.dvd_mul_right _ _
   have h5 : q.natAbs ∣ (pw B d).natAbs := Nat.Coprime.dvd_of_dvd_mul_left (by rw [Nat.coprime_iff_gcd_eq_one, Nat.gcd_comm]; exact hc) h4
   exact h2 d (by omega) (Int.natAbs_dvd_natAbs.1 h5)
theorem fit_mk {B a b p q g:Int} {d D:Nat} (hB:1≤B) (hb:1≤b) (hg:1≤g) (ha:a=p*g) (hbq:b=q*g) (hq:1≤q) (hc:Int.gcd p q=1) (h1:q ∣ pw B d) (h2:∀k,k<d→¬q ∣ pw B k) (hdiv:b ∣ pw B D):
  Same B ⟨p*(pw B d / q),d⟩ ⟨a*(pw B D / b),D⟩:=by
 obtain⟨m,hm⟩:=h1;obtain⟨n,hn⟩:=hdiv
 have e1:pw B d / q=m:=by rw[hm];exact Int.mul_ediv_cancel_left _ (by omega)
 have e2:pw B D / b=n:=by rw[hn];exact Int.mul_ediv_cancel_left _ (by omega)
 simp only[Same]
 rw[e1,e2,hm,hn,ha,hbq]
 ac_rfl
end Go.Proofs.YtkaiilmgemaljaaGreat.Ra
/- Plain facts on the ways in which the reference reckons with exact numbers: fractions in lowest terms, digits. No program is in sight; there are no conditions. -/
namespace Go.Proofs.YtkaiilmgemaljaaGreat.Ra
open Go.Proofs.YtkaiilmgemaljaaGreat.Ex Go.Proofs.YtkaiilmgemaljaaGreat.Ps
/-! ### fractions -/
theorem maxNum_val:maxNum=1000000000000000000:=rfl
theorem gcd_step (x y:Nat):Nat.gcd y (x % y)=Nat.gcd x y:=by rw[Nat.gcd_comm y,← Nat.gcd_rec,Nat.gcd_comm]
theorem gcd_facts {a b:Int} (hb:1≤b):1≤(Int.gcd a b:Int)∧a=a / (Int.gcd a b:Int)*(Int.gcd a b:Int)∧b=b / (Int.gcd a b:Int)*(Int.gcd a b:Int)∧1≤b / (Int.gcd a b:Int)∧Int.gcd (a / (Int.gcd a b:Int)) (b / (Int.gcd a b:Int))=1:=by
 have hp:0<Int.gcd a b:=Int.gcd_pos_of_ne_zero_right a (by omega)
 have h1:a=a / (Int.gcd a b:Int)*(Int.gcd a b:Int):=(Int.ediv_mul_cancel (Int.gcd_dvd_left a b)).symm;have h2:b=b / (Int.gcd a b:Int)*(Int.gcd a b:Int):=(Int.ediv_mul_cancel (Int.gcd_dvd_right a b)).symm
 refine⟨by omega,h1,h2,?_,?_⟩
 ·apply Int.le_ediv_of_mul_le (by omega)
  have:=Int.le_of_dvd (by omega) (Int.gcd_dvd_right a b)
  omega
 ·have h3:Int.gcd (a / (Int.gcd a b:Int)*(Int.gcd a b:Int)) (b / (Int.gcd a b:Int)*(Int.gcd a b:Int))=Int.gcd a b:=by rw[← h1,← h2]
  rw[Int.gcd_mul_right]at h3
  have h4:Int.gcd (a / (Int.gcd a b:Int)) (b / (Int.gcd a b:Int))*Int.gcd a b=1*Int.gcd a b:=by
   rw[Nat.one_mul];simpa using h3
  exact Nat.eq_of_mul_eq_mul_right hp h4
theorem coprime_dvd {p q r:Int} (hc:Int.gcd p q=1) (h:q ∣ p*r):q ∣ r:=by
 have h4:q.natAbs ∣ p.natAbs*r.natAbs:=by rw[← Int.natAbs_mul];exact Int.natAbs_dvd_natAbs.2 h
 have h5:q.natAbs ∣ r.natAbs:=Nat.Coprime.dvd_of_dvd_mul_left (by rw[Nat.coprime_iff_gcd_eq_one,Nat.gcd_comm];exact hc) h4
 exact Int.natAbs_dvd_natAbs.1 h5
def fitE (B p q:Int) (D:Nat):Option E:=mk B (p*(pw B D / q)) D
theorem fit_same {B p q:Int} {D:Nat} (hB:1≤B) (hq:1≤q) (hd:q ∣ pw B D) {x:E} (h:Same B x ⟨p*(pw B D / q),D⟩):x.num*q=p*pw B x.depth:=by
 obtain⟨m,hm⟩:=hd
 have e:pw B D / q=m:=by rw[hm];exact Int.mul_ediv_cancel_left _ (by omega)
 have hp:=pw_pos hB D
 simp only[Same]at h
 rw[e,hm]at h
 have hm0:m≠0:=by intro h0;rw[h0]at hm;simp at hm;omega
 apply Int.eq_of_mul_eq_mul_right hm0
 rw[Int.mul_assoc,h,Int.mul_right_comm]
theorem fit_hit {B p q:Int} {d D:Nat} (hB:1≤B) (hq:1≤q) (hc:Int.gcd p q=1) (hD:q ∣ pw B D) (h1:q ∣ pw B d) (h2:∀k,k<d→¬q ∣ pw B k) (h3:pw B d≤maxScale):
  fitE B p q D=if -maxNum≤p*(pw B d / q)∧p*(pw B d / q)≤maxNum then some ⟨p*(pw B d / q),d⟩ else none:=by
 have hlow:=fit_low hB hq hc h1 h2
 have hsame:Same B ⟨p*(pw B d / q),d⟩ ⟨p*(pw B D / q),D⟩:=by
  have:=fit_mk (B:=B) (a:=p) (b:=q) (p:=p) (q:=q) (g:=1) (d:=d) (D:=D) hB hq (Int.le_refl _) (by omega) (by omega) hq hc h1 h2 hD
  exact this
 have hone:B=1→d=0:=by
  intro e
  cases d with
  | zero=>rfl
  | succ d =>
    exfalso
    apply h2 0 (by omega)
    rw [e, pw_one] at h1; rw [e, pw_one]; exact h1
 split
 ·rename_i h
  exact mk_some hB ⟨h.1,h.2,h3,hlow,hone⟩ hsame
 ·rename_i h
  refine mk_none hB fun x hv hs=>h ?_
  have e:x=⟨p*(pw B d / q),d⟩:=low_unique hB hv.2.2.2.1 hlow (same_trans hB hs hsame.symm);rw[e]at hv
  exact⟨hv.1,hv.2.1⟩
theorem fit_miss {B p q:Int} {d D:Nat} (hB:1≤B) (hq:1≤q) (hc:Int.gcd p q=1) (hD:q ∣ pw B D) (h2:∀k,k<d→¬q ∣ pw B k) (h3:maxScale<pw B d):fitE B p q D=none:=by
 refine mk_none hB fun x hv hs=>?_
 have e:=fit_same hB hq hD hs
 have hx:x.depth<d:=by
  apply Nat.lt_of_not_le
  intro h
  have:=pw_mono hB h;have:=hv.2.2.1
  omega
 exact h2 _ hx (coprime_dvd hc ⟨x.num,by rw[← e,Int.mul_comm]⟩)
theorem fit_far {B p q:Int} {D:Nat} (hB:1≤B) (hq:1≤q) (hc:Int.gcd p q=1) (hD:q ∣ pw B D) (h:p < -maxNum∨maxNum<p):fitE B p q D=none:=by
 refine mk_none hB fun x hv hs=>?_
 have e:=fit_same hB hq hD hs
 have h1:p ∣ x.num:=by
  refine coprime_dvd (p:=q) (q:=p) (by rw[Int.gcd_comm];exact hc) ⟨pw B x.depth,?_⟩
  rw[Int.mul_comm,e]
 have hm:=maxNum_val
 have hx:x.num≠0:=by
  intro h0
  rw[h0,Int.zero_mul]at e;have hp:=pw_pos hB x.depth
  rcases Int.mul_eq_zero.1 e.symm with h'|h'<;>omega
 have h2:p.natAbs≤x.num.natAbs:=Nat.le_of_dvd (by omega) (Int.natAbs_dvd_natAbs.2 h1)
 have:=hv.1;have:=hv.2.1
 omega
theorem fit_reduce {B a b:Int} {D:Nat} (hB:1≤B) (hb:1≤b) (hdiv:b ∣ pw B D):b / (Int.gcd a b:Int) ∣ pw B D∧a*(pw B D / b)=a / (Int.gcd a b:Int)*(pw B D / (b / (Int.gcd a b:Int))):=by
 obtain⟨h1,h2,h3,h4,_⟩:=gcd_facts (a:=a) hb;generalize (Int.gcd a b:Int)=g at *;generalize hp:a / g=p at *;generalize hq:b / g=q at *;obtain⟨n,hn⟩:=hdiv
 have e2:pw B D / b=n:=by rw[hn];exact Int.mul_ediv_cancel_left _ (by omega)
 have e1:pw B D / q=g*n:=by rw[hn,h3,Int.mul_assoc];exact Int.mul_ediv_cancel_left _ (by omega)
 refine⟨⟨g*n,by rw[hn,h3,Int.mul_assoc]⟩,?_⟩
 rw[e1,e2,h2,Int.mul_assoc]
/-! ### products -/
def prodOk (a b:Int):Bool:=decide (-maxNum≤a*b∧a*b≤maxNum)
theorem abs_mul_le {a b:Int} {m:Int}:(-m≤a*b∧a*b≤m)↔(a.natAbs:Int)*b.natAbs≤m:=by
 rw[← Int.natCast_mul,← Int.natAbs_mul];omega
theorem prodOk_yes {a b:Int} (hb:b≠0) (h:(a.natAbs:Int)≤maxNum / (b.natAbs:Int)):prodOk a b=true:=by
 refine decide_eq_true (abs_mul_le.2 ?_)
 exact Int.mul_le_of_le_ediv (by omega) h
theorem prodOk_no {a b:Int} (hb:b≠0) (h:maxNum / (b.natAbs:Int)<(a.natAbs:Int)):prodOk a b=false:=by
 refine decide_eq_false fun hh=>?_
 have h1:=abs_mul_le.1 hh
 have h2:(a.natAbs:Int)≤maxNum / (b.natAbs:Int):=Int.le_ediv_of_mul_le (by omega) h1
 omega
theorem prodOk_zero {a b:Int} (h:a=0∨b=0):prodOk a b=true:=by
 refine decide_eq_true ?_
 have hm:=maxNum_val
 rcases h with h|h<;>subst h<;>simp<;>omega
theorem mul_reduce {B n k:Int} {d:Nat} (hB:1≤B):
  let D:=(Int.gcd k (pw B d):Int)
  let g:=(Int.gcd n (pw B d / D):Int)
  1≤D∧1≤pw B d / D∧1≤g∧1≤pw B d / D / g∧pw B d / D / g ∣ pw B d∧Int.gcd (n / g*(k / D)) (pw B d / D / g)=1∧n / g*(k / D)*(pw B d / (pw B d / D / g))=n*k:=by
 intro D g
 obtain⟨h1,h2,h3,h4,h5⟩:=gcd_facts (a:=k) (pw_pos hB d)
 change 1≤D at h1
 change k=k / D*D at h2
 change pw B d=pw B d / D*D at h3
 change 1≤pw B d / D at h4
 change Int.gcd (k / D) (pw B d / D)=1 at h5
 obtain⟨g1,g2,g3,g4,g5⟩:=gcd_facts (a:=n) h4
 change 1≤g at g1
 change n=n / g*g at g2
 change pw B d / D=pw B d / D / g*g at g3
 change 1≤pw B d / D / g at g4
 change Int.gcd (n / g) (pw B d / D / g)=1 at g5
 have hS:pw B d=pw B d / D / g*(g*D):=by rw[← Int.mul_assoc,← g3];exact h3
 refine⟨h1,h4,g1,g4,⟨g*D,hS⟩,?_,?_⟩
 ·have hk:Int.gcd (k / D) (pw B d / D / g)=1:=by
   apply Nat.eq_one_of_dvd_one
   have a1:(Int.gcd (k / D) (pw B d / D / g):Int) ∣ (Int.gcd (k / D) (pw B d / D):Int):=
    Int.dvd_coe_gcd (Int.gcd_dvd_left _ _) (Int.dvd_trans (Int.gcd_dvd_right _ _) ⟨g,g3⟩)
   rw[h5]at a1
   exact Int.natCast_dvd_natCast.1 a1
  have e1:Nat.Coprime (n / g).natAbs (pw B d / D / g).natAbs:=g5;have e2:Nat.Coprime (k / D).natAbs (pw B d / D / g).natAbs:=hk
  show Nat.gcd (n / g*(k / D)).natAbs _=1
  rw[Int.natAbs_mul]
  exact Nat.Coprime.mul_left e1 e2
 ·have e:pw B d / (pw B d / D / g)=g*D:=by
   conv=>lhs;rw[show pw B d / (pw B d / D / g)=(pw B d / D / g*(g*D)) / (pw B d / D / g) by rw[← hS]]
   exact Int.mul_ediv_cancel_left _ (by omega)
  rw[e]
  conv=>rhs;rw[g2,h2]
  ac_rfl
/-! ### digits -/
def flo (B:Int) (x:E) (j:Nat):Int:=x.num*pw B j / pw B x.depth
def dig (B:Int) (x:E):Nat→Int
 | 0=>flo B x 0
 | j+1=>flo B x (j+1)-B*flo B x j
theorem flo_low {B:Int} (hB:1≤B) {x:E} {k:Nat} (h:k≤x.depth):flo B x k=x.num / pw B (x.depth-k):=by
 obtain⟨m,hm⟩:=Nat.exists_eq_add_of_le h;unfold flo;have hp:=pw_pos hB k
 rw[hm,pw_add,show k+m-k=m by omega,Int.mul_comm (pw B k)]
 exact Int.mul_ediv_mul_of_pos_left _ _ (by omega)
theorem flo_high {B:Int} (hB:1≤B) {x:E} {k:Nat} (h:x.depth≤k):flo B x k=x.num*pw B (k-x.depth):=by
 obtain⟨m,hm⟩:=Nat.exists_eq_add_of_le h;unfold flo;have hp:=pw_pos hB x.depth
 rw[hm,pw_add,show x.depth+m-x.depth=m by omega,Int.mul_left_comm]
 exact Int.mul_ediv_cancel_left _ (by omega)
theorem dig_low {B:Int} (hB:1≤B) {x:E} {k:Nat} (h:k<x.depth):x.num % pw B (x.depth-k) / pw B (x.depth-k-1)=dig B x (k+1):=by
 show _=flo B x (k+1)-B*flo B x k
 rw[flo_low hB (by omega),flo_low hB (show k≤x.depth by omega),show x.depth-(k+1)=x.depth-k-1 by omega]
 obtain⟨m,hm⟩:∃m,x.depth-k=m+1:=⟨x.depth-k-1,by omega⟩
 rw[hm,Nat.add_sub_cancel,pw_succ];have hp:=pw_pos hB m;have e:=Int.mul_ediv_add_emod x.num (pw B m*B);generalize x.num / (pw B m*B)=q at *;generalize x.num % (pw B m*B)=r at *
 rw[← e,Int.mul_assoc,Int.add_comm,Int.add_mul_ediv_left _ _ (by omega)]
 omega
theorem dig_high {B:Int} (hB:1≤B) {x:E} {k:Nat} (h:x.depth<k):dig B x k=0:=by
 obtain⟨m,rfl⟩:∃m,k=m+1:=⟨k-1,by omega⟩
 show flo B x (m+1)-B*flo B x m=0
 rw[flo_high hB (by omega),flo_high hB (show x.depth≤m by omega),show m+1-x.depth=(m-x.depth)+1 by omega,pw_succ]
 rw[Int.mul_comm B,Int.mul_assoc];omega
theorem div_mono {a b c d:Int} (hb:1≤b) (hd:1≤d) (h:c*b≤a*d):c / d≤a / b:=by
 apply Int.le_ediv_of_mul_le (by omega)
 have h1:c / d*d≤c:=Int.ediv_mul_le c (by omega)
 have h2:c / d*d*b≤c*b:=Int.mul_le_mul_of_nonneg_right h1 (by omega)
 apply Int.le_of_mul_le_mul_right (a:=d) _ (by omega)
 rw[Int.mul_right_comm];omega
theorem flo_mono {B:Int} (hB:1≤B) {x y:E} (j:Nat) (h:y.num*pw B x.depth≤x.num*pw B y.depth):flo B y j≤flo B x j:=by
 unfold flo
 refine div_mono (pw_pos hB _) (pw_pos hB _) ?_
 rw[Int.mul_right_comm,Int.mul_right_comm x.num]
 exact Int.mul_le_mul_of_nonneg_right h (by have:=pw_pos hB j;omega)
def cmpE (B:Int) (x y:E):Int:=if x.num*pw B y.depth<y.num*pw B x.depth then -1 else if y.num*pw B x.depth<x.num*pw B y.depth then 1 else 0
theorem cmp_bd (B:Int) (x y:E) : -1≤cmpE B x y∧cmpE B x y≤1:=by
 unfold cmpE
 by_cases h1:x.num*pw B y.depth<y.num*pw B x.depth
 ·rw[if_pos h1];omega
 ·rw[if_neg h1]
  by_cases h2:y.num*pw B x.depth<x.num*pw B y.depth
  ·rw[if_pos h2];omega
  ·rw[if_neg h2];omega
theorem cmp_lt {B:Int} (hB:1≤B) {x y:E} {j:Nat} (h:flo B x j<flo B y j):cmpE B x y = -1:=by
 unfold cmpE;rw[if_pos]
 apply Int.not_le.1
 intro h'
 have:=flo_mono hB j h'
 omega
theorem cmp_gt {B:Int} (hB:1≤B) {x y:E} {j:Nat} (h:flo B y j<flo B x j):cmpE B x y=1:=by
 have h1:y.num*pw B x.depth<x.num*pw B y.depth:=by
  apply Int.not_le.1
  intro h'
  have:=flo_mono hB j h'
  omega
 unfold cmpE
 rw[if_neg (by omega),if_pos h1]
theorem cmp_eq {B:Int} (hB:1≤B) {x y:E} {j:Nat} (hx:x.depth≤j) (hy:y.depth≤j) (h:flo B x j=flo B y j):cmpE B x y=0:=by
 rw[flo_high hB hx,flo_high hB hy]at h
 have e:x.num*pw B y.depth=y.num*pw B x.depth:=by
  have hp:=pw_pos hB j
  apply Int.eq_of_mul_eq_mul_right (a:=pw B j) (by omega)
  have e1:pw B j=pw B (j-x.depth)*pw B x.depth:=by rw[← pw_add];congr 1;omega
  have e2:pw B j=pw B (j-y.depth)*pw B y.depth:=by rw[← pw_add];congr 1;omega
  calc x.num*pw B y.depth*pw B j=x.num*pw B (j-x.depth)*(pw B x.depth*pw B y.depth):=by rw[e1];ac_rfl
   _=y.num*pw B (j-y.depth)*(pw B x.depth*pw B y.depth):=by rw[h]
   _=y.num*pw B x.depth*pw B j:=by rw[e2];ac_rfl
 unfold cmpE
 rw[if_neg (by omega),if_neg (by omega)]
theorem dig_lt {B:Int} (hB:1≤B) {x y:E} {j:Nat} (h0:∀i,i<j→flo B x i=flo B y i) (h:dig B x j<dig B y j):cmpE B x y = -1:=by
 refine cmp_lt hB (j:=j) ?_
 cases j with
 | zero=>exact h
 | succ j =>
   have := h0 j (by omega)
   simp only [dig] at h
   rw [this] at h; omega
theorem dig_gt {B:Int} (hB:1≤B) {x y:E} {j:Nat} (h0:∀i,i<j→flo B x i=flo B y i) (h:dig B y j<dig B x j):cmpE B x y=1:=by
 refine cmp_gt hB (j:=j) ?_
 cases j with
 | zero=>exact h
 | succ j =>
   have := h0 j (by omega)
   simp only [dig] at h
   rw [this] at h; omega
theorem dig_eq {B:Int} {x y:E} {j:Nat} (h0:∀i,i<j→flo B x i=flo B y i) (h:dig B x j=dig B y j):∀i,i<j+1→flo B x i=flo B y i:=by
 intro i hi
 by_cases e:i<j
 ·exact h0 i e
 ·have:i=j:=by omega
  subst this
  cases i with
  | zero=>exact h
  | succ i =>
    have := h0 i (by omega)
    simp only [dig] at h
    rw [this] at h; omega
theorem cmp_ltE {B:Int} {x y:E}:(cmpE B x y<0)=(ltE B x y=true):=by
 unfold cmpE ltE
 simp only[decide_eq_true_eq]
 split
 ·simp[*]
 ·split<;>simp[*]
theorem cmp_swap {B:Int} {x y:E}:(0<cmpE B x y)=(ltE B y x=true):=by
 unfold cmpE ltE
 simp only[decide_eq_true_eq]
 split
 ·simp;omega
 ·split<;>simp[*]
/-! ### the last step of a mean -/
theorem mean_dvd {B:Int} (hB:1≤B) {s:E} (hv:Val B s) (h:B ∣ s.num):mk B s.num (s.depth+1)=some ⟨s.num / B,0⟩:=by
 have h0:s.depth=0:=hv.2.2.2.1.elim id fun h'=>absurd h h'
 have hm:=maxNum_val
 rw[h0,mk_strip (m:=s.num / B) (e:=0) (by rw[Nat.zero_add,strip_go h];rfl),if_pos]
 obtain⟨u,hu⟩:=h
 have e:s.num / B=u:=by rw[hu];exact Int.mul_ediv_cancel_left _ (by omega)
 have h1:=hv.1;have h2:=hv.2.1;rw[hu]at h1 h2;rw[e]
 refine valB_zero ?_ ?_
 ·rcases Int.le_total 0 u with hu0|hu0
  ·omega
  ·have:=Int.mul_le_mul_of_nonpos_right hB hu0;omega
 ·rcases Int.le_total 0 u with hu0|hu0
  ·have:=Int.mul_le_mul_of_nonneg_right hB hu0;omega
  ·omega
theorem mean_not {B:Int} {s:E} (h:¬B ∣ s.num):mk B s.num (s.depth+1)=if valB B s.num (s.depth+1) then some ⟨s.num,s.depth+1⟩ else none:=mk_strip (strip_stop h)
end Go.Proofs.YtkaiilmgemaljaaGreat.Ra
/- Plain facts on the ways in which the program multiplies and compares exact numbers. No program is in sight; there are no conditions. -/
namespace Go.Proofs.YtkaiilmgemaljaaGreat.Ra
open Go.Proofs.YtkaiilmgemaljaaGreat.Ex Go.Proofs.YtkaiilmgemaljaaGreat.Ps
/-! ### products of 128 bits -/
def two64:Int:=18446744073709551616
def hiW (u:Int):Int:=u / two64
def loW (u:Int):Int:=u % two64
theorem hl_lt {u v:Int} (h:u<v):hiW u<hiW v∨hiW u=hiW v∧loW u<loW v:=by unfold hiW loW two64 at *;omega
/-! ### comparing -/
theorem cmp_np {B:Int} (hB:1≤B) {x y:E} (h1:x.num<0) (h2:0≤y.num):cmpE B x y = -1:=by
 have hx:=pw_pos hB x.depth;have hy:=pw_pos hB y.depth
 have a:x.num*pw B y.depth<0:=Int.mul_neg_of_neg_of_pos h1 (by omega)
 have b:0≤y.num*pw B x.depth:=Int.mul_nonneg h2 (by omega)
 unfold cmpE
 rw[if_pos (by omega)]
theorem cmp_pn {B:Int} (hB:1≤B) {x y:E} (h1:0≤x.num) (h2:y.num<0):cmpE B x y=1:=by
 have hx:=pw_pos hB x.depth;have hy:=pw_pos hB y.depth
 have a:y.num*pw B x.depth<0:=Int.mul_neg_of_neg_of_pos h2 (by omega)
 have b:0≤x.num*pw B y.depth:=Int.mul_nonneg h1 (by omega)
 unfold cmpE
 rw[if_neg (by omega),if_pos (by omega)]
def crs (B:Int) (x y:E):Int:=(x.num.natAbs:Int)*pw B y.depth
theorem crs_pos {B:Int} {x y:E} (h:0≤x.num):crs B x y=x.num*pw B y.depth:=by unfold crs;rw[show (x.num.natAbs:Int)=x.num by omega]
theorem crs_neg {B:Int} {x y:E} (h:x.num<0):crs B x y = -(x.num*pw B y.depth):=by unfold crs;rw[show (x.num.natAbs:Int) = -x.num by omega,Int.neg_mul]
theorem cmp_same {B:Int} {x y:E} (h:crs B x y=crs B y x) (hs:(x.num<0∧y.num<0)∨(0≤x.num∧0≤y.num)):cmpE B x y=0:=by
 rcases hs with⟨h1,h2⟩|⟨h1,h2⟩
 ·rw[crs_neg h1,crs_neg h2]at h
  unfold cmpE;rw[if_neg (by omega),if_neg (by omega)]
 ·rw[crs_pos h1,crs_pos h2]at h
  unfold cmpE;rw[if_neg (by omega),if_neg (by omega)]
theorem cmp_pp_lt {B:Int} {x y:E} (h:crs B x y<crs B y x) (h1:0≤x.num) (h2:0≤y.num):cmpE B x y = -1:=by
 rw[crs_pos h1,crs_pos h2]at h
 unfold cmpE;rw[if_pos (by omega)]
theorem cmp_pp_gt {B:Int} {x y:E} (h:crs B y x<crs B x y) (h1:0≤x.num) (h2:0≤y.num):cmpE B x y=1:=by
 rw[crs_pos h1,crs_pos h2]at h
 unfold cmpE;rw[if_neg (by omega),if_pos (by omega)]
theorem cmp_nn_lt {B:Int} {x y:E} (h:crs B x y<crs B y x) (h1:x.num<0) (h2:y.num<0):cmpE B x y=1:=by
 rw[crs_neg h1,crs_neg h2]at h
 unfold cmpE;rw[if_neg (by omega),if_pos (by omega)]
theorem cmp_nn_gt {B:Int} {x y:E} (h:crs B y x<crs B x y) (h1:x.num<0) (h2:y.num<0):cmpE B x y = -1:=by
 rw[crs_neg h1,crs_neg h2]at h
 unfold cmpE;rw[if_pos (by omega)]
/-! ### multiples -/
def sgP (x k:Int):Int:=if (x<0∧¬k<0)∨(¬x<0∧k<0) then -1 else 1
theorem sgP_mul (x k:Int):x*k=sgP x k*((x.natAbs:Int)*k.natAbs):=by
 unfold sgP
 rcases Int.lt_or_le x 0 with h1|h1<;>rcases Int.lt_or_le k 0 with h2|h2
 ·rw[if_neg (by omega),show (x.natAbs:Int) = -x by omega,show (k.natAbs:Int) = -k by omega];simp[Int.neg_mul,Int.mul_neg,Int.neg_neg]
 ·rw[if_pos (by omega),show (x.natAbs:Int) = -x by omega,show (k.natAbs:Int)=k by omega];simp[Int.neg_mul,Int.mul_neg,Int.neg_neg]
 ·rw[if_pos (by omega),show (x.natAbs:Int)=x by omega,show (k.natAbs:Int) = -k by omega];simp[Int.neg_mul,Int.mul_neg,Int.neg_neg]
 ·rw[if_neg (by omega),show (x.natAbs:Int)=x by omega,show (k.natAbs:Int)=k by omega];simp[Int.neg_mul,Int.mul_neg,Int.neg_neg]
theorem sgP_one (x k:Int):sgP x k=1∨sgP x k = -1:=by unfold sgP;split<;>simp
theorem sg_dvd {B g u:Int} (hg:g=1∨g = -1):B ∣ g*u↔B ∣ u:=by
 rcases hg with rfl|rfl
 ·rw[Int.one_mul]
 ·rw[Int.neg_mul,Int.one_mul,Int.dvd_neg]
theorem mk_down {B g u:Int} {j:Nat} (hg:g=1∨g = -1) (h:B ∣ u):mk B (g*u) (j+1)=mk B (g*(u / B)) j:=by
 have e:g*u / B=g*(u / B):=by
  rcases hg with rfl|rfl
  ·rw[Int.one_mul,Int.one_mul]
  ·rw[Int.neg_mul,Int.one_mul,Int.neg_mul,Int.one_mul];exact Int.neg_ediv_of_dvd h
 unfold mk;rw[strip_go ((sg_dvd hg).2 h),e]
theorem mk_far {B n:Int} {j:Nat} (hs:j=0∨¬B ∣ n) (h:n < -maxNum∨maxNum<n):mk B n j=none:=by
 have e:strip B j n=⟨n,j⟩:=strip_of_low hs;rw[mk_strip e,if_neg];rw[Bool.not_eq_true]
 exact valB_far h
end Go.Proofs.YtkaiilmgemaljaaGreat.Ra
/- Plain facts on what the reference's walks over dice find, and on lists whose neighbours are made one. No program is in sight; there are no conditions. -/
namespace Go.Proofs.YtkaiilmgemaljaaGreat.Ps
theorem zero_list {p q:List Int} (hl:p.length=q.length) (hp:∀x∈p,0≤x) (hq:∀x∈q,0≤x) (h1:p.sum=0) (h2:q.sum=0):p=q:=
 ext_getD hl fun i _=>by rw[sum_zero_getD hp h1 i,sum_zero_getD hq h2 i]
theorem stepTo_other {p:List Int} {i d j:Nat} (h1:j≠i) (h2:d≤i→j≠i-d):(stepTo p i d).getD j 0=p.getD j 0:=by
 unfold stepTo
 split
 ·rename_i h
  rw[getD_set_ne (fun e=>h2 h e.symm),getD_set_ne (Ne.symm h1)]
 ·rw[getD_set_ne (Ne.symm h1)]
theorem reach_one {h c:Nat} {a b:Nat} {p:List Int} (ha:1≤a) (hb:1≤b) (hp:PosP h c p) (h1:p.sum=1) (hex:∃q∈stepsL p a,q.sum=0):∀x∈reach [b,a] p,x.sum=0:=by
 intro x hx
 obtain⟨q,hq,hz⟩:=hex;obtain⟨i,hi,hci,rfl⟩:=mem_stepsL.1 hq
 have hai:¬a≤i:=by
  intro h'
  rw[stepTo_sum ha hi,if_pos h']at hz
  omega
 rw[reach_cons,if_neg (by omega)]at hx
 obtain⟨m,hm,hx⟩:=List.mem_flatMap.1 hx;obtain⟨hm1,_⟩:=step_pos hb hp hm;rw[reach_cons]at hx
 split at hx
 ·rename_i h0
  have:x=m:=by simpa using hx
  rw[this];exact h0
 ·rename_i h0
  obtain⟨y,hy,hx⟩:=List.mem_flatMap.1 hx
  have:x=y:=by simpa[reach_nil]using hx
  subst this;obtain⟨k,hk,hck,rfl⟩:=mem_stepsL.1 hm;have hki:k=i:=one_checker hp.2.1 h1 hck.1 hci.1;subst hki;have hs:=stepTo_sum (p:=p) hb hk
  have hbk:b≤k:=by
   by_cases h':b≤k
   ·exact h'
   ·rw[if_neg h']at hs;omega
  rw[if_pos hbk]at hs;obtain⟨j,hj,hcj,rfl⟩:=mem_stepsL.1 hy
  have hjk:j≠k:=by
   intro e
   subst e
   apply hcj.1
   unfold stepTo
   rw[if_pos hbk,getD_set_ne (by omega)]
   have:p.getD j 0=1:=by
    have h2:p.getD j 0≤p.sum:=by
     have e:=wsum_set (fun _=>1) p 0 j 0 hk
     rw[wsum_one,wsum_one]at e;have:=sum_nn (p:=p.set j 0) (mem_set_nonneg hp.2.1 (Int.le_refl _))
     omega
    have:=getD_nonneg hp.2.1 j;have:=hck.1
    omega
   simp[List.getD,List.getElem?_set,hk]at this ⊢
   omega
  have hjb:j=k-b:=by
   apply Classical.byContradiction
   intro h'
   have e:=stepTo_other (p:=p) (i:=k) (d:=b) (j:=j) hjk (fun _=>h')
   have h3:=hcj.1;rw[e]at h3
   exact hjk (one_checker hp.2.1 h1 h3 hck.1)
  rw[stepTo_sum ha hj,if_neg (by omega)]
  omega
theorem reach_two {h c:Nat} {a b:Nat} {p:List Int} (hp:PosP h c p) (h1:p.sum=1) (hex:∃q∈stepsL p a,q.sum=0):∀x∈reach [a,b] p,x.sum=0:=by
 intro x hx
 obtain⟨q,hq,hz⟩:=hex
 rw[reach_cons,if_neg (by omega)]at hx
 obtain⟨m,hm,hx⟩:=List.mem_flatMap.1 hx
 have:m=q:=by
  obtain⟨i,hi,hci,rfl⟩:=mem_stepsL.1 hq;obtain⟨j,hj,hcj,rfl⟩:=mem_stepsL.1 hm;rw[one_checker hp.2.1 h1 hci.1 hcj.1]
 subst this;rw[reach_zero _ hz]at hx
 have:x=m:=by simpa using hx
 rw[this];exact hz
/-! ### one walk over dice -/
def cntP (a:Nat) (p:List Int):Nat:=if p.sum=0 then 0 else if p.sum=1∧∃q∈stepsL p a,q.sum=0 then 1 else 2
theorem cntP_uni {h c:Nat} {a b:Nat} (ha:1≤a) {p:List Int} (hp:PosP h c p):Uni [a,b] p (cntP a p):=by
 unfold cntP
 split
 ·exact uni_zero ‹_›
 ·exact uni_pair (b:=b) ha hp ‹_›
theorem dice_ne {a b:Nat} (h:a≠b):dice a b=[[a,b],[b,a]]:=by unfold dice;rw[if_neg h]
theorem dice_eq (a:Nat):dice a a=[[a,a,a,a]]:=by unfold dice;rw[if_pos rfl]
theorem res_eq {h c:Nat} {a:Nat} {p:List Int} (ha:1≤a) (hp:PosP h c p):sortU (reach [a,a,a,a] p)=resultsL p a a:=by
 unfold resultsL;rw[dice_eq];simp
theorem res_ne {a b:Nat} {p:List Int} (h:a≠b):resultsL p a b=sortU (reach [a,b] p++reach [b,a] p):=by
 unfold resultsL;rw[dice_ne h];simp
theorem res_both {h c:Nat} {a b:Nat} {p:List Int} (ha:1≤a) (hb:1≤b) (hp:PosP h c p) (hne:a≠b):putAll (sortU (reach [a,b] p)) (sortU (reach [b,a] p))=resultsL p a b:=by
 rw[res_ne hne]
 exact putAll_sortU (n:=h) (reach_lens (by simp[ha,hb]) hp) (reach_lens (by simp[ha,hb]) hp)
theorem res_same {h c:Nat} {a b:Nat} {p:List Int} (ha:1≤a) (hb:1≤b) (hp:PosP h c p) (hz:(∀x∈reach [a,b] p,x.sum=0)∧∀x∈reach [b,a] p,x.sum=0) (hne:a≠b):
  sortU (reach [a,b] p)=resultsL p a b∧sortU (reach [b,a] p)=resultsL p a b:=by
 have r1:∀x∈reach [a,b] p,PosP h c x:=fun x hx=>(reach_pos (by simp[ha,hb]) hp x hx).1
 have r2:∀x∈reach [b,a] p,PosP h c x:=fun x hx=>(reach_pos (by simp[ha,hb]) hp x hx).1
 obtain⟨y,hy⟩:=List.exists_mem_of_ne_nil _ (reach_some (ds:=[a,b]) (by simp[ha,hb]) hp)
 obtain⟨z,hz'⟩:=List.exists_mem_of_ne_nil _ (reach_some (ds:=[b,a]) (by simp[ha,hb]) hp)
 have e:∀x z,PosP h c x→PosP h c z→x.sum=0→z.sum=0→x=z:=fun x z hx hz s t=>zero_list (by rw[hx.1,hz.1]) hx.2.1 hz.2.1 s t
 rw[res_ne hne]
 have l1:Lens h (reach [a,b] p):=reach_lens (by simp[ha,hb]) hp
 have l2:Lens h (reach [b,a] p):=reach_lens (by simp[ha,hb]) hp
 have l3:Lens h (reach [a,b] p++reach [b,a] p):=fun x hx=>(List.mem_append.1 hx).elim (l1 x) (l2 x)
 constructor
 ·refine sortU_congr l1 l3 fun x=>?_
  rw[List.mem_append]
  exact⟨fun h=>h.elim id fun h=>by rw[e x y (r2 x h) (r1 y hy) (hz.2 x h) (hz.1 y hy)];exact hy,fun h=>.inl h⟩
 ·refine sortU_congr l2 l3 fun x=>?_
  rw[List.mem_append]
  exact⟨fun h=>h.elim (fun h=>by rw[e x z (r1 x h) (r2 z hz') (hz.1 x h) (hz.2 z hz')];exact hz') id,fun h=>.inr h⟩
theorem cnt_less {a b:Nat} {p:List Int} (hl:cntP a p<cntP b p):p.sum=1∧∃q∈stepsL p a,q.sum=0:=by
 by_cases h0:p.sum=0
 ·unfold cntP at hl;rw[if_pos h0,if_pos h0]at hl;omega
 ·by_cases h1:p.sum=1∧∃q∈stepsL p a,q.sum=0
  ·exact h1
  ·exfalso
   unfold cntP at hl;rw[if_neg h0,if_neg h0,if_neg h1]at hl
   by_cases h2:p.sum=1∧∃q∈stepsL p b,q.sum=0
   ·rw[if_pos h2]at hl;omega
   ·rw[if_neg h2]at hl;omega
theorem res_less {h c:Nat} {a b:Nat} {p:List Int} (ha:1≤a) (hb:1≤b) (hp:PosP h c p) (hne:a≠b) (hl:cntP a p<cntP b p):sortU (reach [b,a] p)=resultsL p a b:=by
 obtain⟨h1,h2⟩:=cnt_less hl
 exact (res_same ha hb hp ⟨reach_two hp h1 h2,reach_one ha hb hp h1 h2⟩ hne).2
theorem res_more {h c:Nat} {a b:Nat} {p:List Int} (ha:1≤a) (hb:1≤b) (hp:PosP h c p) (hne:a≠b) (hl:cntP b p<cntP a p):sortU (reach [a,b] p)=resultsL p a b:=by
 obtain⟨h1,h2⟩:=cnt_less hl
 exact (res_same ha hb hp ⟨reach_one hb ha hp h1 h2,reach_two hp h1 h2⟩ hne).1
noncomputable def walkB (d:Nat) (ds:List Nat) (p:List Int) (i:Nat):List (List Int):=sortU (((stepsL p d).take i).flatMap (reach ds))
theorem walkB_zero (d:Nat) (ds:List Nat) (p:List Int):walkB d ds p 0=[]:=rfl
theorem walkB_step {h c:Nat} {d:Nat} {ds:List Nat} {p:List Int} (hd:∀e∈d::ds,1≤e) (hp:PosP h c p) {i:Nat} (hi:i<(stepsL p d).length):
  putAll (walkB d ds p i) (sortU (reach ds ((stepsL p d).getD i [])))=walkB d ds p (i+1):=by
 unfold walkB;rw[List.take_succ_eq_append_getElem hi,List.flatMap_append]
 have e:(stepsL p d).getD i []=(stepsL p d)[i]:=by simp[List.getD,hi]
 rw[e]
 have hl:∀q∈stepsL p d,Lens h (reach ds q):=fun q hq=>reach_lens (fun e he=>hd e (by simp[he])) (step_pos (hd d (by simp)) hp hq).1
 rw[putAll_sortU (n:=h)]
 ·simp
 ·intro x hx
  obtain⟨q,hq,hx⟩:=List.mem_flatMap.1 hx
  exact hl q (List.mem_of_mem_take hq) x hx
 ·exact hl _ (List.getElem_mem hi)
theorem walkB_end {d:Nat} {ds:List Nat} {p:List Int} (h0:p.sum≠0):walkB d ds p (stepsL p d).length=sortU (reach (d::ds) p):=by
 unfold walkB;rw[List.take_length,reach_cons,if_neg h0]
theorem sortU_one (p:List Int):sortU [p]=[p]:=rfl
/-! ### neighbours made one -/
def cmpct:List (List Int)→List (List Int):=fun l=>l.foldl (fun acc x=>if acc.getLast? = some x then acc else acc++[x]) []
theorem cmpct_snoc (l:List (List Int)) (x:List Int):cmpct (l++[x])=if (cmpct l).getLast? = some x then cmpct l else cmpct l++[x]:=by unfold cmpct;rw[List.foldl_append];rfl
theorem cmpct_last:∀(l:List (List Int)),(cmpct l).getLast? = l.getLast?:=by
 intro l
 induction l using snoc_ind with
 | nil=>rfl
 | snoc l x _ =>
   rw [cmpct_snoc]
   split
   · rename_i h; rw [h]; simp
   · simp
theorem mem_cmpct (l:List (List Int)):∀x,x∈cmpct l↔x∈l:=by
 induction l using snoc_ind with
 | nil=>intro x;exact Iff.rfl
 | snoc l y ih =>
   intro x
   rw [cmpct_snoc, List.mem_append]
   split
   · rename_i h
     rw [ih x]
     constructor
     · exact .inl
     · rintro (h' | h')
       · exact h'
       · have : x = y := by simpa using h'
         subst this; rw [cmpct_last] at h
         exact List.mem_of_getLast? h
   · rw [List.mem_append, ih x]
theorem cmpct_srt {n:Nat}:∀{l:List (List Int)},Lens n l→l.Pairwise (fun p q=>¬Bef q p)→Srt (cmpct l):=by
 intro l
 induction l using snoc_ind with
 | nil=>intro _ _;exact List.Pairwise.nil
 | snoc l x ih =>
   intro hl hs
   obtain ⟨h1, h2, h3⟩ := List.pairwise_append.1 hs
   have hr : Lens n l := fun p hp => hl p (by simp [hp])
   have ih' := ih hr h1; rw [cmpct_snoc]
   split
   · exact ih'
   · rename_i hne
     refine List.pairwise_append.2 ⟨ih', List.pairwise_singleton _ _, fun y hy z hz => ?_⟩
     have hzx : z = x := by simpa using hz
     subst hzx; have hyl := (mem_cmpct l y).1 hy
     have hnb := h3 y hyl z (by simp)
     rcases bef_total (p := y) (q := z) (by rw [hr y hyl, hl z (by simp)]) with h | h | h
     · exact h
     · exfalso
       subst h
       apply hne
       -- y is in l, and all behind it in l are not before it, nor after y = x: so the last is y
       rw [cmpct_last]
       obtain ⟨l', w, hw⟩ : ∃ l' w, l = l' ++ [w] := by
         rcases List.eq_nil_or_concat l with e | ⟨l', w, e⟩
         · rw [e] at hyl; simp at hyl
         · exact ⟨l', w, by rw [e, List.concat_eq_append]⟩
       have hwl : w ∈ l := by rw [hw]; simp
       have hnw := h3 w hwl y (by simp)
       have : w = y := by
         rw [hw] at hyl h1
         rcases List.mem_append.1 hyl with hy1 | hy1
         · have := (List.pairwise_append.1 h1).2.2 y hy1 w (by simp)
           rcases bef_total (p := y) (q := w) (by rw [hr w hwl, hl y (by simp)]) with h | h | h
           · exact absurd h hnw
           · exact h.symm
           · exact absurd h this
         · have : y = w := by simpa using hy1
           exact this.symm
       rw [hw, this]; simp
     · exact absurd h hnb
theorem cmpct_sortU {n:Nat} {l k:List (List Int)} (hk:Lens n k) (hm:∀x,x∈l↔x∈k) (hs:l.Pairwise (fun p q=>¬Bef q p)):cmpct l=sortU k:=by
 have hl:Lens n l:=fun x hx=>hk x ((hm x).1 hx)
 refine (sortU_of hk (fun x hx=>hl x ((mem_cmpct l x).1 hx)) (cmpct_srt hl hs) fun x=>?_).symm
 rw[mem_cmpct,hm x]
end Go.Proofs.YtkaiilmgemaljaaGreat.Ps

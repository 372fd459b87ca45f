/- Part of one proof. There are no conditions. -/
import Derived.Test.YtkaiilmgemaljaaGreatTZb
set_option linter.unusedVariables false
set_option linter.unusedSimpArgs false
namespace Go.Proofs.YtkaiilmgemaljaaGreat
open Go.RowKit
section
variable {P:Program} {w:World}
def Upd (n i:Nat) (v:Value) (L:Nat->Bool) (vs:Nat->Value) (L':Nat->Bool) (vs':Nat->Value):Prop:=
 L' i=true/\vs' i=v/\∀k,k<n->k≠i->L' k=L k/\vs' k=vs k
structure JInv (ops:Array Oper) (a0:Act) (n:Nat) (ds:Nat->Nat) (J:(Nat->Bool)->(Nat->Value)->World->Prop) (listed:Array Bool) (a:Act) (W:World):Prop where
 inv:HeadInv .any ops n listed
 df:a.defers=a0.defers
 sz:a.tmps.size=a0.tmps.size
 far:∀t,(∀i,i<n->ds i≠t)->a.tmps.getD t undef=a0.tmps.getD t undef
 j:J (fun k=>listed.getD k false) (fun k=>a.tmps.getD (ds k) undef) W
theorem fn {id:Nat} {Q:Exit->Act->World->Prop} {a:Act} {l:List Oper} (n:Nat) (X:Nat->Bool) (ds:Nat->Nat) (J:(Nat->Bool)->(Nat->Value)->World->Prop)
  (hm:P.follows .mixedOrders=true) (hB:earlyB l.toArray n X ds a.tmps.size=true) (hQ:∀(c:List PanicEntry) (a:Act) (d:Tmp) (v:Value) (w:World),Q (.panic c) (Act.put a (some d) v) w->Q (.panic c) a w)
  (start:∀vs,J (fun _=>false) vs { w with drawn:=w.drawn+1 })
  (early:∀i o,i<n→X i=true→l[i]? = some o→∀(L:Nat→Bool) (a':Act) (W:World),J L (fun k=>a'.tmps.getD (ds k) undef) W→L i=false→(∀t,(∀i,i<n→ds i≠t)→a'.tmps.getD t undef=a.tmps.getD t undef)→
   (∀j,j<n->Region.waitsFor .any l.toArray i j=true->L j=true)->∃v,(∀W',(execOp a'.eval o).run P W' = .ok (.value v) W')/\∀L' vs',Upd n i v L (fun k=>a'.tmps.getD (ds k) undef) L' vs'->J L' vs' W)
  (step:∀i o,i<n→X i=false→l[i]? = some o→∀(L:Nat→Bool) (a':Act) (W:World),J L (fun k=>a'.tmps.getD (ds k) undef) W→L i=false→(∀t,(∀i,i<n→ds i≠t)→a'.tmps.getD t undef=a.tmps.getD t undef)→
   (∀j,j<n->Region.waitsFor .any l.toArray i j=true->L j=true)->MStep P o a' W (fun v W'=>∀L' vs',Upd n i v L (fun k=>a'.tmps.getD (ds k) undef) L' vs'->J L' vs' W'))
  (tail:∀(L:Nat->Bool) (v:Nat->Value) (W:World),(∀i,i<n->L i=true)->J L v W->wpList P l.toArray Q (l.drop n) (putV a ds v n) W):
  (Code.region id l.toArray true).wp P Q a w:=by
 simp only[earlyB,Bool.and_eq_true,decide_eq_true_eq]at hB
 obtain⟨⟨⟨⟨⟨⟨hn,hs⟩,hc⟩,hq⟩,hsel⟩,hh⟩,hx⟩:=hB
 have hop:∀i,i<n->∃o,l.toArray[i]? = some o/\l[i]? = some o/\o.guard=none/\o.dst=some (ds i)/\ds i<a.tmps.size/\(∀e∈o.after,Region.binds .any e=true->e.on<i)/\∀j,j<n->i≠j->ds i≠ds j:=fun i hi=>by
  have h:=List.all_eq_true.1 hh i (List.mem_range.2 hi)
  cases ho:l.toArray[i]? with
  | none=>rw[ho]at h;cases h
  | some o =>
    rw [ho] at h
    simp only [Bool.and_eq_true, decide_eq_true_eq] at h
    obtain ⟨⟨⟨⟨h1, h2⟩, h3⟩, h4⟩, h5⟩ := h
    refine ⟨o, rfl, by simpa using ho, by simpa using h1, h2, h3, fun e he hb => ?_, fun j hj hij => ?_⟩
    · have h6 := (Array.all_eq_true'.1 h4) e he
      simpa [hb] using h6
    · have h6 := List.all_eq_true.1 h5 j (List.mem_range.2 hj)
      simpa [hij] using h6
 have hdd:∀i j,i<n->j<n->i≠j->ds i≠ds j:=fun i j hi hj hij=>by obtain⟨_,_,_,_,_,_,_,h⟩:=hop i hi;exact h j hj hij
 have hdz:∀i,i<n->ds i<a.tmps.size:=fun i hi=>by obtain⟨_,_,_,_,_,h,_⟩:=hop i hi;exact h
 have H:∀(f:Nat) (listed:Array Bool) (a':Act) (W:World),cntL listed n+f=n->JInv l.toArray a n ds J listed a' W->wpAny P .any l.toArray Q (f+(l.toArray.size-n)) listed a' W:=by
  intro f
  induction f with
  | zero =>
    intro listed a' W hcnt I
    have hall := dF (listed := listed) (n := n) (by omega)
    have hl := f7 I.inv hall
    have hv : putV a ds (fun i => a'.tmps.getD (ds i) undef) n = a' := by
      have e1 : (putV a ds (fun i => a'.tmps.getD (ds i) undef) n).tmps = a'.tmps := by
        apply Array.ext
        · rw [d9, I.sz]
        · intro t h1 h2
          have e : ∀ (A : Array Value) (h : t < A.size), A[t] = A.getD t undef := fun A h => by simp [h]
          rw [e _ h1, e _ h2]
          by_cases hx : ∃ i, i < n /\ ds i = t
          · obtain ⟨i, hi, rfl⟩ := hx
            exact jv a ds _ n hdz hdd i hi
          · have hx' : ∀ i, i < n → ds i ≠ t := fun i hi he => hx ⟨i, hi, he⟩
            rw [gF a ds _ n hx', I.far t hx']
      have e2 : (putV a ds (fun i => a'.tmps.getD (ds i) undef) n).defers = a'.defers := by rw [dL, I.df]
      generalize putV a ds (fun i => a'.tmps.getD (ds i) undef) n = x at *
      cases x; cases a'
      simp only at e1 e2
      rw [e1, e2]
    have ht := tail (fun k => listed.getD k false) (fun i => a'.tmps.getD (ds i) undef) W (fun i hi => hall i hi) I.j
    rw [hv] at ht; rw [Nat.zero_add]
    have hdl : (l.drop n).length = l.toArray.size - n := by simp
    have := wpAny_of_seq (md := .any) (Q' := Q) (ops := l.toArray) (l.drop n) n listed a' W (fun j => by simp [List.getElem?_drop]) (by rw [hdl, hl]; exact hq) ht
    rwa [hdl] at this
  | succ f ih =>
    intro listed a' W hcnt I
    by_cases hxr : ∃ x, x ∈ Region.ready .any l.toArray listed /\ x < n /\ X x = true
    · obtain ⟨x, hxr, hxn, hxX⟩ := hxr
      obtain ⟨hun, o', ho', hall'⟩ := mem_ready.1 hxr; obtain ⟨o, ho, hol, hg, hd, hz, _, _⟩ := hop x hxn; have : o' = o := Option.some.inj (ho'.symm.trans ho); subst this
      obtain ⟨v, hrun, hG⟩ := early x o' hxn hxX hol (fun k => listed.getD k false) a' W I.j (getD_both hun) I.far fun j hj hw => by
        obtain ⟨oj, hoj, e, he, hb, hon⟩ := Region.waitsFor_spec hw; have : oj = o' := Option.some.inj (hoj.symm.trans ho'); subst this
        have := hall' e he hb; rwa [hon] at this
      have hfree : ∀ j oj, l.toArray[j]? = some oj -> j ≠ x -> listed.getD j true = false -> (∀ e ∈ oj.after, Region.binds .any e = true -> e.on ≠ x) -> o'.apart l.toArray oj = true := fun j oj hj hjx hju hno => by
        have h := List.all_eq_true.1 hx x (List.mem_range.2 hxn); rw [hxX, ho'] at h
        simp only [Bool.not_true, Bool.false_or] at h
        have h2 := List.all_eq_true.1 h j (List.mem_range.2 (Array.getElem?_eq_some_iff.1 hj).1); rw [hj] at h2
        simp only [Bool.or_eq_true, beq_iff_eq] at h2
        rcases h2 with ((h2 | h2) | h2) | h2
        · exact absurd h2 hjx
        · obtain ⟨oj', hoj', e, he, hb, hon⟩ := Region.waitsFor_spec h2
          have : oj' = oj := Option.some.inj (hoj'.symm.trans hj); subst this
          exact absurd hon (hno e he hb)
        · obtain ⟨oj', hoj', e, he, hb, hon⟩ := Region.waitsFor_spec h2
          have : oj' = o' := Option.some.inj (hoj'.symm.trans ho'); subst this; have h3 := hall' e he hb; rw [hon, getD_both hju] at h3
          cases h3
        · exact h2
      have hsz : x < listed.size := by rw [I.inv.size]; omega
      rw [show f + 1 + (l.toArray.size - n) = (f + (l.toArray.size - n)) + 1 by omega]
      refine wpAny_first ho' (Region.noSelect_spec hsel) (fun c a w h => hQ c a (ds x) v w (by rw [<- hd]; exact h)) _ listed a' W hfree hxr (.inl ⟨by simp [Region.wanted, hg], hrun⟩) ?_
      rw [hd]
      refine ih _ _ _ (by rw [dS hsz (getD_both hun), if_pos hxn]; omega) ⟨I.inv.set hxr hxn, by simp [Act.put, I.df], by simp [Act.put, I.sz], fun t ht => ?_, hG _ _ ⟨?_, ?_, fun j hj hne => ⟨?_, ?_⟩⟩⟩
      · rw [aE _ (ht x hxn)]; exact I.far t ht
      · simp [hsz]
      · exact bw _ (by rw [I.sz]; exact hz) _
      · exact getD_set_ne false (Ne.symm hne)
      · exact aE _ (hdd x j hxn hj (Ne.symm hne)) _
    obtain ⟨k, hk, hkf, hkl⟩ := eo (listed := listed) (n := n) (by omega)
    have hkr : k ∈ Region.ready .any l.toArray listed := by
      obtain ⟨o, ho, _, _, _, _, h5, _⟩ := hop k hk
      exact mem_ready.2 ⟨getD_in (by rw [I.inv.size]; omega) hkf, o, ho, fun e he hb => hkl _ (h5 e he hb)⟩
    have hkX : X k = false := by
      cases h : X k with
      | false => rfl
      | true => exact absurd ⟨k, hkr, hk, h⟩ hxr
    rw [show f + 1 + (l.toArray.size - n) = (f + (l.toArray.size - n)) + 1 by omega]
    refine ⟨fun h0 => (by rw [h0] at hkr; cases hkr), fun i hi => ?_⟩
    have hin : i < n := by
      rcases Nat.lt_or_ge i n with h | h
      · exact h
      · exact absurd hi (gh hs hc hn I.inv _ k rfl hk hkX (getD_in (by rw [I.inv.size]; omega) hkf) i h)
    have hiX : X i = false := by
      cases h : X i with
      | false => rfl
      | true => exact absurd ⟨i, hi, hin, h⟩ hxr
    obtain ⟨hun, o', ho', hall'⟩ := mem_ready.1 hi; obtain ⟨o, ho, hol, hg, hd, hz, _, _⟩ := hop i hin; have : o' = o := Option.some.inj (ho'.symm.trans ho); subst this
    have hst := step i o' hin hiX hol (fun k => listed.getD k false) a' W I.j (getD_both hun) I.far fun j hj hw => by
      obtain ⟨oj, hoj, e, he, hb, hon⟩ := Region.waitsFor_spec hw; have : oj = o' := Option.some.inj (hoj.symm.trans ho'); subst this
      have := hall' e he hb; rwa [hon] at this
    unfold wpOp; rw [ho']
    simp only [Region.wanted, hg]
    simp only [if_true]
    refine .inl (hst.wp fun v W' hgd => ?_)
    rw [hd]
    have hsz : i < listed.size := by rw [I.inv.size]; omega
    refine ih _ _ _ (by rw [dS hsz (getD_both hun), if_pos hin]; omega) ⟨I.inv.set hi hin, by simp [Act.put, I.df], by simp [Act.put, I.sz], fun t ht => ?_, hgd _ _ ⟨?_, ?_, fun j hj hne => ⟨?_, ?_⟩⟩⟩
    · rw [aE _ (ht i hin)]; exact I.far t ht
    · simp [hsz]
    · exact bw _ (by rw [I.sz]; exact hz) _
    · exact getD_set_ne false (Ne.symm hne)
    · exact aE _ (hdd i j hin hj (Ne.symm hne)) _
 refine wp_region_any hm ?_
 have:=H n (Array.replicate l.toArray.size false) a { w with drawn:=w.drawn+1 } (by rw[ej];omega)
  ⟨⟨by simp, fun j oj _ hl => (by rw [getD_replicate_false] at hl; cases hl), fun t _ ht => getD_in (by simpa using ht) (getD_replicate_false _ _)⟩, rfl, rfl, fun _ _ => rfl, by
    have h := start (fun k => a.tmps.getD (ds k) undef)
    have e : (fun k => (Array.replicate l.toArray.size false).getD k false) = fun _ => false := funext fun k => getD_replicate_false _ _
    rw [e]; exact h⟩
 rwa [show n+(l.toArray.size-n)=l.toArray.size by omega]at this
end
end Go.Proofs.YtkaiilmgemaljaaGreat

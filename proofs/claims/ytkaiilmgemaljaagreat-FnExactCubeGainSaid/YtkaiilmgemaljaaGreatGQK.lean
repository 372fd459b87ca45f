/- Part of one proof. There are no conditions. -/
import Derived.Test.YtkaiilmgemaljaaGreatGD2
import Derived.Test.YtkaiilmgemaljaaGreatGZt
import Derived.Test.YtkaiilmgemaljaaGreatGZb
set_option linter.unusedVariables false
set_option linter.unusedSimpArgs false
namespace Go.Proofs.YtkaiilmgemaljaaGreat
open Go.RowKit
theorem OwnS.base {w:World} {b b':Nat} {e:TypeId} {v:Value} {xs:List Int} (h:OwnS w b e v xs) (hb:b'<=b):OwnS w b' e v xs:=cM h hb
section
variable {P:Program} {w:World}
def Upd (n i:Nat) (v:Value) (L:Nat->Bool) (vs:Nat->Value) (L':Nat->Bool) (vs':Nat->Value):Prop:=
 L' i=true/\vs' i=v/\∀k,k<n->k≠i->L' k=L k/\vs' k=vs k
structure JInv (ops:Array Oper) (a0:Act) (n:Nat) (ds:Nat->Nat) (J:(Nat->Bool)->(Nat->Value)->World->Prop) (listed:Array Bool) (a:Act) (W:World):Prop where
 inv:HeadInv .any ops n listed
 df:a.defers=a0.defers
 sz:a.tmps.size=a0.tmps.size
 far:∀t,(∀i,i<n->ds i≠t)->a.tmps.getD t undef=a0.tmps.getD t undef
 j:J (fun k=>listed.getD k false) (fun k=>a.tmps.getD (ds k) undef) W
theorem cK {id:Nat} {Q:Exit->Act->World->Prop} {a:Act} {l:List Oper} (n:Nat) (X:Nat->Bool) (ds:Nat->Nat) (J:(Nat->Bool)->(Nat->Value)->World->Prop)
  (hm:P.follows .mixedOrders=true) (hB:gY l.toArray n X ds a.tmps.size=true) (hQ:∀(c:List PanicEntry) (a:Act) (d:Tmp) (v:Value) (w:World),Q (.panic c) (Act.put a (some d) v) w->Q (.panic c) a w)
  (start:∀vs,J (fun _=>false) vs { w with drawn:=w.drawn+1 })
  (early:∀i o,i<n→X i=true→l[i]? = some o→∀(L:Nat→Bool) (a':Act) (W:World),J L (fun k=>a'.tmps.getD (ds k) undef) W→L i=false→(∀t,(∀i,i<n→ds i≠t)→a'.tmps.getD t undef=a.tmps.getD t undef)→
   (∀j,j<n->Region.waitsFor .any l.toArray i j=true->L j=true)->∃v,(∀W',(execOp a'.eval o).run P W' = .ok (.value v) W')/\∀L' vs',Upd n i v L (fun k=>a'.tmps.getD (ds k) undef) L' vs'->J L' vs' W)
  (step:∀i o,i<n→X i=false→l[i]? = some o→∀(L:Nat→Bool) (a':Act) (W:World),J L (fun k=>a'.tmps.getD (ds k) undef) W→L i=false→(∀t,(∀i,i<n→ds i≠t)→a'.tmps.getD t undef=a.tmps.getD t undef)→
   (∀j,j<n->Region.waitsFor .any l.toArray i j=true->L j=true)->MStep P o a' W (fun v W'=>∀L' vs',Upd n i v L (fun k=>a'.tmps.getD (ds k) undef) L' vs'->J L' vs' W'))
  (tail:∀(L:Nat->Bool) (v:Nat->Value) (W:World),(∀i,i<n->L i=true)->J L v W->wpList P l.toArray Q (l.drop n) (putV a ds v n) W):
  (Code.region id l.toArray true).wp P Q a w:=by
 simp only[gY,Bool.and_eq_true,decide_eq_true_eq]at hB
 obtain⟨⟨⟨⟨⟨⟨hn,hs⟩,hc⟩,hq⟩,hsel⟩,hh⟩,hx⟩:=hB
 have hop:∀i,i<n->∃o,l.toArray[i]? = some o/\l[i]? = some o/\o.guard=none/\o.dst=some (ds i)/\ds i<a.tmps.size/\(∀e∈o.after,Region.binds .any e=true->e.on<i)/\∀j,j<n->i≠j->ds i≠ds j:=fun i hi=>by
  have h:=List.all_eq_true.1 hh i (List.mem_range.2 hi)
  cases ho:l.toArray[i]? with
  | none=>rw[ho]at h;cases h
  | some o =>
    rw [ho] at h
    simp only [Bool.and_eq_true, decide_eq_true_eq] at h
    obtain ⟨⟨⟨⟨h1, h2⟩, h3⟩, h4⟩, h5⟩ := h
    refine ⟨o, rfl, by simpa using ho, by simpa using h1, h2, h3, fun e he hb => ?_, fun j hj hij => ?_⟩
    · have h6 := (Array.all_eq_true'.1 h4) e he
      simpa [hb] using h6
    · have h6 := List.all_eq_true.1 h5 j (List.mem_range.2 hj)
      simpa [hij] using h6
 have hdd:∀i j,i<n->j<n->i≠j->ds i≠ds j:=fun i j hi hj hij=>by obtain⟨_,_,_,_,_,_,_,h⟩:=hop i hi;exact h j hj hij
 have hdz:∀i,i<n->ds i<a.tmps.size:=fun i hi=>by obtain⟨_,_,_,_,_,h,_⟩:=hop i hi;exact h
 have H:∀(f:Nat) (listed:Array Bool) (a':Act) (W:World),cntL listed n+f=n->JInv l.toArray a n ds J listed a' W->wpAny P .any l.toArray Q (f+(l.toArray.size-n)) listed a' W:=by
  intro f
  induction f with
  | zero =>
    intro listed a' W hcnt I
    have hall := eJ (listed := listed) (n := n) (by omega)
    have hl := gF I.inv hall
    have hv : putV a ds (fun i => a'.tmps.getD (ds i) undef) n = a' := by
      have e1 : (putV a ds (fun i => a'.tmps.getD (ds i) undef) n).tmps = a'.tmps := by
        apply Array.ext
        · rw [eA, I.sz]
        · intro t h1 h2
          have e : ∀ (A : Array Value) (h : t < A.size), A[t] = A.getD t undef := fun A h => by simp [h]
          rw [e _ h1, e _ h2]
          by_cases hx : ∃ i, i < n /\ ds i = t
          · obtain ⟨i, hi, rfl⟩ := hx
            exact jV a ds _ n hdz hdd i hi
          · have hx' : ∀ i, i < n → ds i ≠ t := fun i hi he => hx ⟨i, hi, he⟩
            rw [io a ds _ n hx', I.far t hx']
      have e2 : (putV a ds (fun i => a'.tmps.getD (ds i) undef) n).defers = a'.defers := by rw [dU, I.df]
      generalize putV a ds (fun i => a'.tmps.getD (ds i) undef) n = x at *
      cases x; cases a'
      simp only at e1 e2
      rw [e1, e2]
    have ht := tail (fun k => listed.getD k false) (fun i => a'.tmps.getD (ds i) undef) W (fun i hi => hall i hi) I.j
    rw [hv] at ht; rw [Nat.zero_add]
    have hdl : (l.drop n).length = l.toArray.size - n := by simp
    have := wpAny_of_seq (md := .any) (Q' := Q) (ops := l.toArray) (l.drop n) n listed a' W (fun j => by simp [List.getElem?_drop]) (by rw [hdl, hl]; exact hq) ht
    rwa [hdl] at this
  | succ f ih =>
    intro listed a' W hcnt I
    by_cases hxr : ∃ x, x ∈ Region.ready .any l.toArray listed /\ x < n /\ X x = true
    · obtain ⟨x, hxr, hxn, hxX⟩ := hxr
      obtain ⟨hun, o', ho', hall'⟩ := mem_ready.1 hxr; obtain ⟨o, ho, hol, hg, hd, hz, _, _⟩ := hop x hxn; have : o' = o := Option.some.inj (ho'.symm.trans ho); subst this
      obtain ⟨v, hrun, hG⟩ := early x o' hxn hxX hol (fun k => listed.getD k false) a' W I.j (getD_both hun) I.far fun j hj hw => by
        obtain ⟨oj, hoj, e, he, hb, hon⟩ := Region.waitsFor_spec hw; have : oj = o' := Option.some.inj (hoj.symm.trans ho'); subst this
        have := hall' e he hb; rwa [hon] at this
      have hfree : ∀ j oj, l.toArray[j]? = some oj -> j ≠ x -> listed.getD j true = false -> (∀ e ∈ oj.after, Region.binds .any e = true -> e.on ≠ x) -> o'.apart l.toArray oj = true := fun j oj hj hjx hju hno => by
        have h := List.all_eq_true.1 hx x (List.mem_range.2 hxn); rw [hxX, ho'] at h
        simp only [Bool.not_true, Bool.false_or] at h
        have h2 := List.all_eq_true.1 h j (List.mem_range.2 (Array.getElem?_eq_some_iff.1 hj).1); rw [hj] at h2
        simp only [Bool.or_eq_true, beq_iff_eq] at h2
        rcases h2 with ((h2 | h2) | h2) | h2
        · exact absurd h2 hjx
        · obtain ⟨oj', hoj', e, he, hb, hon⟩ := Region.waitsFor_spec h2
          have : oj' = oj := Option.some.inj (hoj'.symm.trans hj); subst this
          exact absurd hon (hno e he hb)
        · obtain ⟨oj', hoj', e, he, hb, hon⟩ := Region.waitsFor_spec h2
          have : oj' = o' := Option.some.inj (hoj'.symm.trans ho'); subst this; have h3 := hall' e he hb; rw [hon, getD_both hju] at h3
          cases h3
        · exact h2
      have hsz : x < listed.size := by rw [I.inv.size]; omega
      rw [show f + 1 + (l.toArray.size - n) = (f + (l.toArray.size - n)) + 1 by omega]
      refine wpAny_first ho' (Region.noSelect_spec hsel) (fun c a w h => hQ c a (ds x) v w (by rw [<- hd]; exact h)) _ listed a' W hfree hxr (.inl ⟨by simp [Region.wanted, hg], hrun⟩) ?_
      rw [hd]
      refine ih _ _ _ (by rw [eZ hsz (getD_both hun), if_pos hxn]; omega) ⟨I.inv.set hxr hxn, by simp [Act.put, I.df], by simp [Act.put, I.sz], fun t ht => ?_, hG _ _ ⟨?_, ?_, fun j hj hne => ⟨?_, ?_⟩⟩⟩
      · rw [aK _ (ht x hxn)]; exact I.far t ht
      · simp [hsz]
      · exact bW _ (by rw [I.sz]; exact hz) _
      · exact getD_set_ne false (Ne.symm hne)
      · exact aK _ (hdd x j hxn hj (Ne.symm hne)) _
    obtain ⟨k, hk, hkf, hkl⟩ := gr (listed := listed) (n := n) (by omega)
    have hkr : k ∈ Region.ready .any l.toArray listed := by
      obtain ⟨o, ho, _, _, _, _, h5, _⟩ := hop k hk
      exact mem_ready.2 ⟨getD_in (by rw [I.inv.size]; omega) hkf, o, ho, fun e he hb => hkl _ (h5 e he hb)⟩
    have hkX : X k = false := by
      cases h : X k with
      | false => rfl
      | true => exact absurd ⟨k, hkr, hk, h⟩ hxr
    rw [show f + 1 + (l.toArray.size - n) = (f + (l.toArray.size - n)) + 1 by omega]
    refine ⟨fun h0 => (by rw [h0] at hkr; cases hkr), fun i hi => ?_⟩
    have hin : i < n := by
      rcases Nat.lt_or_ge i n with h | h
      · exact h
      · exact absurd hi (gP hs hc hn I.inv _ k rfl hk hkX (getD_in (by rw [I.inv.size]; omega) hkf) i h)
    have hiX : X i = false := by
      cases h : X i with
      | false => rfl
      | true => exact absurd ⟨i, hi, hin, h⟩ hxr
    obtain ⟨hun, o', ho', hall'⟩ := mem_ready.1 hi; obtain ⟨o, ho, hol, hg, hd, hz, _, _⟩ := hop i hin; have : o' = o := Option.some.inj (ho'.symm.trans ho); subst this
    have hst := step i o' hin hiX hol (fun k => listed.getD k false) a' W I.j (getD_both hun) I.far fun j hj hw => by
      obtain ⟨oj, hoj, e, he, hb, hon⟩ := Region.waitsFor_spec hw; have : oj = o' := Option.some.inj (hoj.symm.trans ho'); subst this
      have := hall' e he hb; rwa [hon] at this
    unfold wpOp; rw [ho']
    simp only [Region.wanted, hg]
    simp only [if_true]
    refine .inl (hst.wp fun v W' hgd => ?_)
    rw [hd]
    have hsz : i < listed.size := by rw [I.inv.size]; omega
    refine ih _ _ _ (by rw [eZ hsz (getD_both hun), if_pos hin]; omega) ⟨I.inv.set hi hin, by simp [Act.put, I.df], by simp [Act.put, I.sz], fun t ht => ?_, hgd _ _ ⟨?_, ?_, fun j hj hne => ⟨?_, ?_⟩⟩⟩
    · rw [aK _ (ht i hin)]; exact I.far t ht
    · simp [hsz]
    · exact bW _ (by rw [I.sz]; exact hz) _
    · exact getD_set_ne false (Ne.symm hne)
    · exact aK _ (hdd i j hin hj (Ne.symm hne)) _
 refine wp_region_any hm ?_
 have:=H n (Array.replicate l.toArray.size false) a { w with drawn:=w.drawn+1 } (by rw[gq];omega)
  ⟨⟨by simp, fun j oj _ hl => (by rw [getD_replicate_false] at hl; cases hl), fun t _ ht => getD_in (by simpa using ht) (getD_replicate_false _ _)⟩, rfl, rfl, fun _ _ => rfl, by
    have h := start (fun k => a.tmps.getD (ds k) undef)
    have e : (fun k => (Array.replicate l.toArray.size false).getD k false) = fun _ => false := funext fun k => getD_replicate_false _ _
    rw [e]; exact h⟩
 rwa [show n+(l.toArray.size-n)=l.toArray.size by omega]at this
end
open Go.RowKit
theorem SBy.below {w w':World} {C:Option Addr} {n:Nat} {bs:List Int} (h:SBy w C n bs) (hb:Below w.heap.size w w'):SBy w' C n bs:=
 h.frm (S:=fun _=>False) (Frm.of_below' _ hb) fun _ _ _ _ _ h=>h.elim
def SomG (g:Nat) (C:Option Addr) (n c:Nat) (bs:List Int) (W:World):Prop:=∃q,SrcG W g C n c bs q
theorem SomG.below {g:Nat} {C:Option Addr} {n c:Nat} {bs:List Int} {W W':World} (h:SomG g C n c bs W) (hb:Below W.heap.size W W'):SomG g C n c bs W':=h.elim fun q h=>⟨q,h.below hb⟩
theorem SomG.alloc {g:Nat} {C:Option Addr} {n c:Nat} {bs:List Int} {W:World} (h:SomG g C n c bs W) (o:Obj):SomG g C n c bs (W.alloc o):=h.below (Bel.alloc W o)
theorem SomG.lt {g:Nat} {C:Option Addr} {n c:Nat} {bs:List Int} {W:World} (h:SomG g C n c bs W):g<W.heap.size:=h.elim fun _ h=>h.lt
theorem SomG.frm {O:Nat->Prop} {g:Nat} {C:Option Addr} {n c:Nat} {bs:List Int} {W W':World} (h:SomG g C n c bs W) (hf:Frm O W W') (hO:∀k,O k->g<k):SomG g C n c bs W':=h.elim fun q h=>⟨q,h.frm hf hO⟩
section
variable {n:Nat} {S:Nat->Prop} {V:World} {Inv:World->Prop} {G:List RP} {K:List (Nat×List Value)} {T:List (Nat×Nat×List Value×(List Value->Prop))} {L L':Nat->Bool} {vs vs':Nat->Value} {W W':World} {i:Nat} {v:Value} {ds:Nat->Option Nat}
end
open Go.RowKit
section
variable {P:Program} {w:World}
def JK (w:World) (n:Nat) (G:Nat->Value->Nat->Nat->World->Prop) (L:Nat->Bool) (vs:Nat->Value) (W:World):Prop:=
 Below w.heap.size w W/\∃lo hi:Nat->Nat,(∀i,i<n->L i=true->G i (vs i) (lo i) (hi i) W/\w.heap.size<=lo i/\lo i<=hi i/\hi i<=W.heap.size)/\∀i j,i<n->j<n->L i=true->L j=true->i≠j->hi i<=lo j\/hi j<=lo i
theorem MStep.mono {o:Oper} {a:Act} {W:World} {g g':Value->World->Prop} (h:MStep P o a W g) (hg:∀v W',g v W'->g' v W'):MStep P o a W g':=by
 rcases h with⟨v,W',h1,h2⟩|⟨f,args,h1,h2⟩
 ·exact .inl ⟨v,W',h1,hg v W' h2⟩
 ·exact .inr ⟨f,args,h1,h2.mono fun e W' ⟨v,he,hv⟩=>⟨v,he,hg v W' hv⟩⟩
theorem cJ {id:Nat} {Q:Exit->Act->World->Prop} {a:Act} {l:List Oper} (n:Nat) (ds:Nat->Nat) (G:Nat->Value->Nat->Nat->World->Prop)
  (hm:P.follows .mixedOrders=true) (hB:gY l.toArray n (fun _=>false) ds a.tmps.size=true) (hQ:∀(c:List PanicEntry) (a:Act) (d:Tmp) (v:Value) (w:World),Q (.panic c) (Act.put a (some d) v) w->Q (.panic c) a w)
  (stab:∀i v lo hi W W',G i v lo hi W->Below W.heap.size W W'->G i v lo hi W')
  (step:∀i o,i<n→l[i]? = some o→∀(a':Act) (W:World),Below w.heap.size w W→(∀t,(∀i,i<n→ds i≠t)→a'.tmps.getD t undef=a.tmps.getD t undef)→
   (∀j,j<n->Region.waitsFor .any l.toArray i j=true->∃lo hi,G j (a'.tmps.getD (ds j) undef) lo hi W)->MStep P o a' W (fun v W'=>Below W.heap.size W W'/\G i v W.heap.size W'.heap.size W'))
  (tail:∀(v:Nat->Value) (W:World) (lo hi:Nat->Nat),Below w.heap.size w W->(∀i,i<n->G i (v i) (lo i) (hi i) W/\w.heap.size<=lo i/\lo i<=hi i/\hi i<=W.heap.size)->(∀i j,i<n->j<n->i≠j->hi i<=lo j\/hi j<=lo i)->wpList P l.toArray Q (l.drop n) (putV a ds v n) W):
  (Code.region id l.toArray true).wp P Q a w:=by
 refine cK n (fun _=>false) ds (JK w n G) hm hB hQ ?_ ?_ ?_ ?_
 ·intro vs
  exact⟨⟨rfl,rfl,rfl,Nat.le_refl _,fun _ _=>rfl⟩,fun _=>0,fun _=>0,fun i _ h=>(by cases h),fun i j _ _ h=>(by cases h)⟩
 ·intro i o hi hX
  cases hX
 ·intro i o hi _ ho L a' W hJ hun hfar hdep
  obtain⟨hb,lo,hh,h1,h2⟩:=hJ
  refine (step i o hi ho a' W hb hfar fun j hj hw=>⟨lo j,hh j,(h1 j hj (hdep j hj hw)).1⟩).mono ?_
  rintro v W' ⟨hb',hG⟩ L' vs' ⟨u1,u2,u3⟩
  have hz:w.heap.size<=W.heap.size:=hb.size;have hz':W.heap.size<=W'.heap.size:=hb'.size
  refine⟨hb.trans (hb'.mono hz),fun k=>if k=i then W.heap.size else lo k,fun k=>if k=i then W'.heap.size else hh k,fun k hk hL=>?_,fun k m hk hm' hLk hLm hne=>?_⟩
  ·by_cases e:k=i
   ·subst e
    simp only[if_true]
    rw[u2]
    exact⟨hG,hz,hz',Nat.le_refl _⟩
   ·simp only[if_neg e]
    obtain⟨v1,v2⟩:=u3 k hk e;rw[v1]at hL;obtain⟨g1,g2,g3,g4⟩:=h1 k hk hL;rw[v2]
    exact⟨stab _ _ _ _ _ _ g1 hb',g2,g3,by omega⟩
  ·by_cases e:k=i
   ·subst e
    have em:m≠k:=Ne.symm hne
    simp only[if_true,if_neg em]
    obtain⟨v1,_⟩:=u3 m hm' em;rw[v1]at hLm;have:=(h1 m hm' hLm).2.2.2
    exact .inr (by omega)
   ·by_cases e2:m=i
    ·subst e2
     simp only[if_true,if_neg e]
     obtain⟨v1,_⟩:=u3 k hk e;rw[v1]at hLk;have:=(h1 k hk hLk).2.2.2
     exact .inl (by omega)
    ·simp only[if_neg e,if_neg e2]
     obtain⟨v1,_⟩:=u3 k hk e;obtain⟨v2,_⟩:=u3 m hm' e2;rw[v1]at hLk;rw[v2]at hLm
     exact h2 k m hk hm' hLk hLm hne
 ·intro L v W hL hJ
  obtain⟨hb,lo,hh,h1,h2⟩:=hJ
  exact tail v W lo hh hb (fun i hi=>h1 i hi (hL i hi)) fun i j hi hj hne=>h2 i j hi hj (hL i hi) (hL j hj) hne
end
end Go.Proofs.YtkaiilmgemaljaaGreat

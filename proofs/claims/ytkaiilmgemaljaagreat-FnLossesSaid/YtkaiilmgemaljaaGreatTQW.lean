/- Part of one proof. There are no conditions. -/
import Derived.Test.YtkaiilmgemaljaaGreatTZb
set_option linter.unusedVariables false
set_option linter.unusedSimpArgs false
namespace Go.Proofs.YtkaiilmgemaljaaGreat
open Go.RowKit
section
variable {P:Program} {w:World}
def dsO (ops:Array Oper) (i:Nat):Option Nat:=(ops[i]?).bind (·.dst)
def getO (a:Act) (ds:Nat->Option Nat) (k:Nat):Value:=match ds k with
 | some d=>a.tmps.getD d undef
 | none=>undef
def putO (a:Act) (ds:Nat->Option Nat) (v:Nat->Value):Nat->Act
 | 0=>a
 | k+1=>(putO a ds v k).put (ds k) (v k)
theorem fa (a:Act) (ds:Nat->Option Nat) (v:Nat->Value):∀n,(putO a ds v n).defers=a.defers
 | 0=>rfl
 | n + 1 => by
   unfold putO
   cases ds n with
   | none => exact fa a ds v n
   | some d => simp [Act.put, fa a ds v n]
theorem fC (a:Act) (ds:Nat->Option Nat) (v:Nat->Value):∀n,(putO a ds v n).tmps.size=a.tmps.size
 | 0=>rfl
 | n + 1 => by
   unfold putO
   cases ds n with
   | none => exact fC a ds v n
   | some d => simp [Act.put, fC a ds v n]
theorem putO_far (a:Act) (ds:Nat->Option Nat) (v:Nat->Value) {t:Nat}:∀n,(∀i,i<n->ds i≠some t)->(putO a ds v n).tmps.getD t undef=a.tmps.getD t undef
 | 0,_=>rfl
 | n + 1, h => by
   unfold putO
   have ih := putO_far a ds v n fun i hi => h i (by omega)
   have hn := h n (by omega)
   cases hd : ds n with
   | none => exact ih
   | some d => rw [hd] at hn; rw [aE _ (fun e => hn (by rw [e]))]; exact ih
theorem putO_at (a:Act) (ds:Nat->Option Nat) (v:Nat->Value):∀n,(∀i d,i<n->ds i=some d->d<a.tmps.size)->(∀i j d,i<n->j<n->i≠j->ds i=some d->ds j≠some d)->∀i d,i<n->ds i=some d->(putO a ds v n).tmps.getD d undef=v i
 | 0,_,_,i,_,hi,_=>by omega
 | n + 1, hs, hd, i, d, hi, he => by
   unfold putO
   by_cases e : i = n
   · subst e
     rw [he]
     exact bw _ (by rw [fC]; exact hs i d (by omega) he) _
   · have hn := hd i n d (by omega) (by omega) e he
     have ih := putO_at a ds v n (fun i d hi => hs i d (by omega)) (fun i j d hi hj => hd i j d (by omega) (by omega)) i d (by omega) he
     cases hk : ds n with
     | none => exact ih
     | some k => rw [hk] at hn; rw [aE _ (fun e => hn (by rw [e]))]; exact ih
def wholeB (ops:Array Oper) (m:Nat):Bool:=
 (List.range ops.size).all fun i=>match ops[i]? with
  | some o => o.guard.isNone && (o.after.all fun e => !Region.binds .any e || decide (e.on < i)) && (match o.dst with
    | some d => decide (d < m) && ((List.range ops.size).all fun j => i == j || (dsO ops j != some d))
    | none => true)
  | none=>false
def UpdS (n i:Nat) (ds:Nat->Option Nat) (v:Value) (L:Nat->Bool) (vs:Nat->Value) (L':Nat->Bool) (vs':Nat->Value):Prop:=
 L' i=true/\(ds i≠none->vs' i=v)/\∀k,k<n->k≠i->L' k=L k/\vs' k=vs k
def OStep (P:Program) (o:Oper) (a:Act) (W:World) (good:Value->World->Prop):Prop:=MStep P o a W good\/(o.dst=none/\∃W',(execOp a.eval o).run P W = .ok .skip W'/\good undef W')
theorem OStep.wp {o:Oper} {a:Act} {W:World} {good:Value->World->Prop} {K:Act->World->Prop} {Q:Exit->Act->World->Prop} (h:OStep P o a W good) (hK:∀v W',good v W'->K (a.put o.dst v) W'):o.wp P a W K Q:=by
 rcases h with h|⟨hd,W',hr,hg⟩
 ·exact h.wp hK
 ·unfold Oper.wp
  rw[hr,Oper.upon_skip]
  exact hK _ _ hg
structure WInv (ops:Array Oper) (a0:Act) (J:(Nat->Bool)->(Nat->Value)->World->Prop) (listed:Array Bool) (a:Act) (W:World):Prop where
 lsz:listed.size=ops.size
 df:a.defers=a0.defers
 sz:a.tmps.size=a0.tmps.size
 far:∀t,(∀i,i<ops.size->dsO ops i≠some t)->a.tmps.getD t undef=a0.tmps.getD t undef
 j:J (fun k=>listed.getD k false) (getO a (dsO ops)) W
theorem gL {id:Nat} {Q:Exit->Act->World->Prop} {a:Act} {l:List Oper} (n:Nat) (ds:Nat->Option Nat) (J:(Nat->Bool)->(Nat->Value)->World->Prop)
  (hm:P.follows .mixedOrders=true) (hn:l.length=n) (hds:∀i,i<n->dsO l.toArray i=ds i) (hB:wholeB l.toArray a.tmps.size=true)
  (start:∀vs,J (fun _=>false) vs { w with drawn:=w.drawn+1 })
  (step:∀i o,i<n→l[i]? = some o→∀(L:Nat→Bool) (a':Act) (W:World),J L (getO a' ds) W→L i=false→(∀t,(∀i,i<n→ds i≠some t)→a'.tmps.getD t undef=a.tmps.getD t undef)→
   (∀j,j<n->Region.waitsFor .any l.toArray i j=true->L j=true)->OStep P o a' W (fun v W'=>∀L' vs',UpdS n i ds v L (getO a' ds) L' vs'->J L' vs' W'))
  (ext:∀L vs vs' W,(∀k,k<n->vs k=vs' k)->J L vs W->J L vs' W)
  (fin:∀(L:Nat->Bool) (v:Nat->Value) (W:World),(∀i,i<n->L i=true)->J L v W->Q .normal (putO a ds v n) W):
  (Code.region id l.toArray true).wp P Q a w:=by
 subst hn
 have hsz:l.toArray.size=l.length:=by simp
 have hop:∀i,i<l.length->∃o,l.toArray[i]? = some o/\l[i]? = some o/\o.guard=none/\o.dst=ds i/\(∀e∈o.after,Region.binds .any e=true->e.on<i)/\(∀d,ds i=some d->d<a.tmps.size/\∀j,j<l.length->i≠j->ds j≠some d):=fun i hi=>by
  have h:=List.all_eq_true.1 hB i (List.mem_range.2 (by rw[hsz];exact hi))
  have hd:=hds i hi
  cases ho:l.toArray[i]? with
  | none=>rw[ho]at h;cases h
  | some o =>
    rw [ho] at h
    have hd2 : o.dst = ds i := by rw [<- hd]; unfold dsO; rw [ho]; rfl
    simp only [Bool.and_eq_true] at h
    obtain ⟨⟨h1, h4⟩, h5⟩ := h
    refine ⟨o, rfl, by simpa using ho, by simpa using h1, hd2, fun e he hb => ?_, fun d hdd => ?_⟩
    · have h6 := (Array.all_eq_true'.1 h4) e he
      simpa [hb] using h6
    · rw [hd2, hdd] at h5
      simp only [Bool.and_eq_true, decide_eq_true_eq] at h5
      refine ⟨h5.1, fun j hj hij => ?_⟩
      have h6 := List.all_eq_true.1 h5.2 j (List.mem_range.2 (by rw [hsz]; exact hj))
      rw [<- hds j hj]
      simpa [hij] using h6
 have hgo:∀x:Act,∀k,k<l.length->getO x (dsO l.toArray) k=getO x ds k:=fun x k hk=>by unfold getO;rw[hds k hk]
 have H:∀(f:Nat) (listed:Array Bool) (a':Act) (W:World),cntL listed l.length+f=l.length->WInv l.toArray a J listed a' W->wpAny P .any l.toArray Q f listed a' W:=by
  intro f
  induction f with
  | zero =>
    intro listed a' W hcnt I
    have hall := dF (listed := listed) (n := l.length) (by omega)
    refine ⟨?_, ?_⟩
    · refine List.eq_nil_iff_forall_not_mem.2 fun i hi => ?_
      obtain ⟨hun, o', ho', _⟩ := mem_ready.1 hi
      have hil : i < l.length := by have := (Array.getElem?_eq_some_iff.1 ho').1; rw [hsz] at this; exact this
      have h1 := hall i hil; have h2 := getD_both hun; rw [h1] at h2
      cases h2
    · have hv : putO a ds (getO a' ds) l.length = a' := by
        have e1 : (putO a ds (getO a' ds) l.length).tmps = a'.tmps := by
          apply Array.ext
          · rw [fC, I.sz]
          · intro t h1 h2
            have e : ∀ (A : Array Value) (h : t < A.size), A[t] = A.getD t undef := fun A h => by simp [h]
            rw [e _ h1, e _ h2]
            by_cases hx : ∃ i, i < l.length /\ ds i = some t
            · obtain ⟨i, hi, hit⟩ := hx
              rw [putO_at a ds _ l.length (fun i d hi hd => ((hop i hi).choose_spec.2.2.2.2.2 d hd).1) (fun i j d hi hj hij hd => ((hop i hi).choose_spec.2.2.2.2.2 d hd).2 j hj hij) i t hi hit]
              unfold getO; rw [hit]
            · have hx' : ∀ i, i < l.length → ds i ≠ some t := fun i hi he => hx ⟨i, hi, he⟩
              rw [putO_far a ds _ l.length hx', I.far t fun i hi => by rw [hds i (by rw [<- hsz]; exact hi)]; exact hx' i (by rw [<- hsz]; exact hi)]
        have e2 : (putO a ds (getO a' ds) l.length).defers = a'.defers := by rw [fa, I.df]
        generalize putO a ds (getO a' ds) l.length = x at *
        cases x; cases a'
        simp only at e1 e2
        rw [e1, e2]
      have hj := ext _ _ (getO a' ds) _ (hgo a') I.j
      have := fin (fun k => listed.getD k false) (getO a' ds) W (fun i hi => hall i hi) hj
      rwa [hv] at this
  | succ f ih =>
    intro listed a' W hcnt I
    obtain ⟨k, hk, hkf, hkl⟩ := eo (listed := listed) (n := l.length) (by omega)
    have hls : listed.size = l.length := by rw [I.lsz, hsz]
    have hkr : k ∈ Region.ready .any l.toArray listed := by
      obtain ⟨o, ho, _, _, _, h5, _⟩ := hop k hk
      exact mem_ready.2 ⟨getD_in (by rw [hls]; exact hk) hkf, o, ho, fun e he hb => hkl _ (h5 e he hb)⟩
    refine ⟨fun h0 => (by rw [h0] at hkr; cases hkr), fun i hi => ?_⟩
    obtain ⟨hun, o', ho', hall'⟩ := mem_ready.1 hi
    have hil : i < l.length := by have := (Array.getElem?_eq_some_iff.1 ho').1; rw [hsz] at this; exact this
    obtain ⟨o, ho, hol, hg, hd, _, hdd⟩ := hop i hil; have : o' = o := Option.some.inj (ho'.symm.trans ho); subst this; have hj := ext _ _ (getO a' ds) _ (hgo a') I.j
    have hst := step i o' hil hol (fun k => listed.getD k false) a' W hj (getD_both hun) (fun t ht => I.far t fun i hi => by rw [hds i (by rw [<- hsz]; exact hi)]; exact ht i (by rw [<- hsz]; exact hi)) fun j hj hw => by
      obtain ⟨oj, hoj, e, he, hb, hon⟩ := Region.waitsFor_spec hw; have : oj = o' := Option.some.inj (hoj.symm.trans ho'); subst this
      have := hall' e he hb; rwa [hon] at this
    unfold wpOp; rw [ho']
    simp only [Region.wanted, hg]
    simp only [if_true]
    refine .inl (hst.wp fun v W' hgd => ?_)
    rw [hd]
    have hsl : i < listed.size := by rw [hls]; exact hil
    refine ih _ _ _ (by rw [dS hsl (getD_both hun), if_pos hil]; omega) ⟨by simp [hls], ?_, ?_, fun t ht => ?_, ?_⟩
    · cases ds i with
      | none => exact I.df
      | some d => simp [Act.put, I.df]
    · cases ds i with
      | none => exact I.sz
      | some d => simp [Act.put, I.sz]
    · have hti := ht i (by rw [hsz]; exact hil)
      rw [hds i hil] at hti
      cases hdi : ds i with
      | none => exact I.far t ht
      | some d => rw [hdi] at hti; rw [aE _ (fun e => hti (by rw [e]))]; exact I.far t ht
    · refine ext _ (getO (a'.put (ds i) v) ds) _ _ (fun k hk => (hgo _ k hk).symm) (hgd _ _ ⟨?_, fun hne => ?_, fun j hj hne => ⟨?_, ?_⟩⟩)
      · simp [hsl]
      · unfold getO
        cases hdi : ds i with
        | none => exact absurd hdi hne
        | some d => exact bw _ (by rw [I.sz]; exact (hdd d hdi).1) _
      · exact getD_set_ne false (Ne.symm hne)
      · unfold getO
        cases hdj : ds j with
        | none => rfl
        | some d =>
          cases hdi : ds i with
          | none => rfl
          | some d' => exact aE _ (fun e => (hdd d' hdi).2 j hj (Ne.symm hne) (by rw [hdj, e])) _
 refine wp_region_any hm ?_
 have:=H l.length (Array.replicate l.toArray.size false) a { w with drawn:=w.drawn+1 } (by rw[ej];omega)
  ⟨by simp,rfl,rfl,fun _ _=>rfl,by
   have h:=start (getO a (dsO l.toArray))
   have e:(fun k=>(Array.replicate l.toArray.size false).getD k false)=fun _=>false:=funext fun k=>getD_replicate_false _ _
   rw[e];exact h⟩
 rwa [show l.length=l.toArray.size by simp]at this
end
end Go.Proofs.YtkaiilmgemaljaaGreat

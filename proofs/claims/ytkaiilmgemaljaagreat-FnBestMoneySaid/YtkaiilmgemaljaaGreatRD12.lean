/- Part of one proof. There are no conditions. -/
import Derived.Test.YtkaiilmgemaljaaGreatRZb
import Derived.Test.YtkaiilmgemaljaaGreatRD7
set_option linter.unusedVariables false
set_option linter.unusedSimpArgs false
set_option maxHeartbeats 0
set_option maxRecDepth 100000
namespace Go.Proofs.YtkaiilmgemaljaaGreat
open Go.RowKit
section
variable {P:Program} {w:World}
def dsO (ops:Array Oper) (i:Nat):Option Nat:=(ops[i]?).bind (·.dst)
def getO (a:Act) (ds:Nat->Option Nat) (k:Nat):Value:=match ds k with
 | some d=>a.tmps.getD d undef
 | none=>undef
def putO (a:Act) (ds:Nat->Option Nat) (v:Nat->Value):Nat->Act
 | 0=>a
 | k+1=>(putO a ds v k).put (ds k) (v k)
theorem fB (a:Act) (ds:Nat->Option Nat) (v:Nat->Value):∀n,(putO a ds v n).defers=a.defers
 | 0=>rfl
 | n + 1 => by
   unfold putO
   cases ds n with
   | none => exact fB a ds v n
   | some d => simp [Act.put, fB a ds v n]
theorem f7 (a:Act) (ds:Nat->Option Nat) (v:Nat->Value):∀n,(putO a ds v n).tmps.size=a.tmps.size
 | 0=>rfl
 | n + 1 => by
   unfold putO
   cases ds n with
   | none => exact f7 a ds v n
   | some d => simp [Act.put, f7 a ds v n]
theorem putO_far (a:Act) (ds:Nat->Option Nat) (v:Nat->Value) {t:Nat}:∀n,(∀i,i<n->ds i≠some t)->(putO a ds v n).tmps.getD t undef=a.tmps.getD t undef
 | 0,_=>rfl
 | n + 1, h => by
   unfold putO
   have ih := putO_far a ds v n fun i hi => h i (by omega)
   have hn := h n (by omega)
   cases hd : ds n with
   | none => exact ih
   | some d => rw [hd] at hn; rw [aE _ (fun e => hn (by rw [e]))]; exact ih
theorem putO_at (a:Act) (ds:Nat->Option Nat) (v:Nat->Value):∀n,(∀i d,i<n->ds i=some d->d<a.tmps.size)->(∀i j d,i<n->j<n->i≠j->ds i=some d->ds j≠some d)->∀i d,i<n->ds i=some d->(putO a ds v n).tmps.getD d undef=v i
 | 0,_,_,i,_,hi,_=>by omega
 | n + 1, hs, hd, i, d, hi, he => by
   unfold putO
   by_cases e : i = n
   · subst e
     rw [he]
     exact bI _ (by rw [f7]; exact hs i d (by omega) he) _
   · have hn := hd i n d (by omega) (by omega) e he
     have ih := putO_at a ds v n (fun i d hi => hs i d (by omega)) (fun i j d hi hj => hd i j d (by omega) (by omega)) i d (by omega) he
     cases hk : ds n with
     | none => exact ih
     | some k => rw [hk] at hn; rw [aE _ (fun e => hn (by rw [e]))]; exact ih
def wholeB (ops:Array Oper) (m:Nat):Bool:=
 (List.range ops.size).all fun i=>match ops[i]? with
  | some o => o.guard.isNone && (o.after.all fun e => !Region.binds .any e || decide (e.on < i)) && (match o.dst with
    | some d => decide (d < m) && ((List.range ops.size).all fun j => i == j || (dsO ops j != some d))
    | none => true)
  | none=>false
def UpdS (n i:Nat) (ds:Nat->Option Nat) (v:Value) (L:Nat->Bool) (vs:Nat->Value) (L':Nat->Bool) (vs':Nat->Value):Prop:=
 L' i=true/\(ds i≠none->vs' i=v)/\∀k,k<n->k≠i->L' k=L k/\vs' k=vs k
def OStep (P:Program) (o:Oper) (a:Act) (W:World) (good:Value->World->Prop):Prop:=MStep P o a W good\/(o.dst=none/\∃W',(execOp a.eval o).run P W = .ok .skip W'/\good undef W')
theorem OStep.wp {o:Oper} {a:Act} {W:World} {good:Value->World->Prop} {K:Act->World->Prop} {Q:Exit->Act->World->Prop} (h:OStep P o a W good) (hK:∀v W',good v W'->K (a.put o.dst v) W'):o.wp P a W K Q:=by
 rcases h with h|⟨hd,W',hr,hg⟩
 ·exact h.wp hK
 ·unfold Oper.wp
  rw[hr,Oper.upon_skip]
  exact hK _ _ hg
structure WInv (ops:Array Oper) (a0:Act) (J:(Nat->Bool)->(Nat->Value)->World->Prop) (listed:Array Bool) (a:Act) (W:World):Prop where
 lsz:listed.size=ops.size
 df:a.defers=a0.defers
 sz:a.tmps.size=a0.tmps.size
 far:∀t,(∀i,i<ops.size->dsO ops i≠some t)->a.tmps.getD t undef=a0.tmps.getD t undef
 j:J (fun k=>listed.getD k false) (getO a (dsO ops)) W
theorem eo {id:Nat} {Q:Exit->Act->World->Prop} {a:Act} {l:List Oper} (n:Nat) (ds:Nat->Option Nat) (J:(Nat->Bool)->(Nat->Value)->World->Prop)
  (hm:P.follows .mixedOrders=true) (hn:l.length=n) (hds:∀i,i<n->dsO l.toArray i=ds i) (hB:wholeB l.toArray a.tmps.size=true)
  (start:∀vs,J (fun _=>false) vs { w with drawn:=w.drawn+1 })
  (step:∀i o,i<n→l[i]? = some o→∀(L:Nat→Bool) (a':Act) (W:World),J L (getO a' ds) W→L i=false→(∀t,(∀i,i<n→ds i≠some t)→a'.tmps.getD t undef=a.tmps.getD t undef)→
   (∀j,j<n->Region.waitsFor .any l.toArray i j=true->L j=true)->OStep P o a' W (fun v W'=>∀L' vs',UpdS n i ds v L (getO a' ds) L' vs'->J L' vs' W'))
  (ext:∀L vs vs' W,(∀k,k<n->vs k=vs' k)->J L vs W->J L vs' W)
  (fin:∀(L:Nat->Bool) (v:Nat->Value) (W:World),(∀i,i<n->L i=true)->J L v W->Q .normal (putO a ds v n) W):
  (Code.region id l.toArray true).wp P Q a w:=by
 subst hn
 have hsz:l.toArray.size=l.length:=by simp
 have hop:∀i,i<l.length->∃o,l.toArray[i]? = some o/\l[i]? = some o/\o.guard=none/\o.dst=ds i/\(∀e∈o.after,Region.binds .any e=true->e.on<i)/\(∀d,ds i=some d->d<a.tmps.size/\∀j,j<l.length->i≠j->ds j≠some d):=fun i hi=>by
  have h:=List.all_eq_true.1 hB i (List.mem_range.2 (by rw[hsz];exact hi))
  have hd:=hds i hi
  cases ho:l.toArray[i]? with
  | none=>rw[ho]at h;cases h
  | some o =>
    rw [ho] at h
    have hd2 : o.dst = ds i := by rw [<- hd]; unfold dsO; rw [ho]; rfl
    simp only [Bool.and_eq_true] at h
    obtain ⟨⟨h1, h4⟩, h5⟩ := h
    refine ⟨o, rfl, by simpa using ho, by simpa using h1, hd2, fun e he hb => ?_, fun d hdd => ?_⟩
    · have h6 := (Array.all_eq_true'.1 h4) e he
      simpa [hb] using h6
    · rw [hd2, hdd] at h5
      simp only [Bool.and_eq_true, decide_eq_true_eq] at h5
      refine ⟨h5.1, fun j hj hij => ?_⟩
      have h6 := List.all_eq_true.1 h5.2 j (List.mem_range.2 (by rw [hsz]; exact hj))
      rw [<- hds j hj]
      simpa [hij] using h6
 have hgo:∀x:Act,∀k,k<l.length->getO x (dsO l.toArray) k=getO x ds k:=fun x k hk=>by unfold getO;rw[hds k hk]
 have H:∀(f:Nat) (listed:Array Bool) (a':Act) (W:World),cntL listed l.length+f=l.length->WInv l.toArray a J listed a' W->wpAny P .any l.toArray Q f listed a' W:=by
  intro f
  induction f with
  | zero =>
    intro listed a' W hcnt I
    have hall := dM (listed := listed) (n := l.length) (by omega)
    refine ⟨?_, ?_⟩
    · refine List.eq_nil_iff_forall_not_mem.2 fun i hi => ?_
      obtain ⟨hun, o', ho', _⟩ := mem_ready.1 hi
      have hil : i < l.length := by have := (Array.getElem?_eq_some_iff.1 ho').1; rw [hsz] at this; exact this
      have h1 := hall i hil; have h2 := getD_both hun; rw [h1] at h2
      cases h2
    · have hv : putO a ds (getO a' ds) l.length = a' := by
        have e1 : (putO a ds (getO a' ds) l.length).tmps = a'.tmps := by
          apply Array.ext
          · rw [f7, I.sz]
          · intro t h1 h2
            have e : ∀ (A : Array Value) (h : t < A.size), A[t] = A.getD t undef := fun A h => by simp [h]
            rw [e _ h1, e _ h2]
            by_cases hx : ∃ i, i < l.length /\ ds i = some t
            · obtain ⟨i, hi, hit⟩ := hx
              rw [putO_at a ds _ l.length (fun i d hi hd => ((hop i hi).choose_spec.2.2.2.2.2 d hd).1) (fun i j d hi hj hij hd => ((hop i hi).choose_spec.2.2.2.2.2 d hd).2 j hj hij) i t hi hit]
              unfold getO; rw [hit]
            · have hx' : ∀ i, i < l.length → ds i ≠ some t := fun i hi he => hx ⟨i, hi, he⟩
              rw [putO_far a ds _ l.length hx', I.far t fun i hi => by rw [hds i (by rw [<- hsz]; exact hi)]; exact hx' i (by rw [<- hsz]; exact hi)]
        have e2 : (putO a ds (getO a' ds) l.length).defers = a'.defers := by rw [fB, I.df]
        generalize putO a ds (getO a' ds) l.length = x at *
        cases x; cases a'
        simp only at e1 e2
        rw [e1, e2]
      have hj := ext _ _ (getO a' ds) _ (hgo a') I.j
      have := fin (fun k => listed.getD k false) (getO a' ds) W (fun i hi => hall i hi) hj
      rwa [hv] at this
  | succ f ih =>
    intro listed a' W hcnt I
    obtain ⟨k, hk, hkf, hkl⟩ := eH (listed := listed) (n := l.length) (by omega)
    have hls : listed.size = l.length := by rw [I.lsz, hsz]
    have hkr : k ∈ Region.ready .any l.toArray listed := by
      obtain ⟨o, ho, _, _, _, h5, _⟩ := hop k hk
      exact mem_ready.2 ⟨getD_in (by rw [hls]; exact hk) hkf, o, ho, fun e he hb => hkl _ (h5 e he hb)⟩
    refine ⟨fun h0 => (by rw [h0] at hkr; cases hkr), fun i hi => ?_⟩
    obtain ⟨hun, o', ho', hall'⟩ := mem_ready.1 hi
    have hil : i < l.length := by have := (Array.getElem?_eq_some_iff.1 ho').1; rw [hsz] at this; exact this
    obtain ⟨o, ho, hol, hg, hd, _, hdd⟩ := hop i hil; have : o' = o := Option.some.inj (ho'.symm.trans ho); subst this; have hj := ext _ _ (getO a' ds) _ (hgo a') I.j
    have hst := step i o' hil hol (fun k => listed.getD k false) a' W hj (getD_both hun) (fun t ht => I.far t fun i hi => by rw [hds i (by rw [<- hsz]; exact hi)]; exact ht i (by rw [<- hsz]; exact hi)) fun j hj hw => by
      obtain ⟨oj, hoj, e, he, hb, hon⟩ := Region.waitsFor_spec hw; have : oj = o' := Option.some.inj (hoj.symm.trans ho'); subst this
      have := hall' e he hb; rwa [hon] at this
    unfold wpOp; rw [ho']
    simp only [Region.wanted, hg]
    simp only [if_true]
    refine .inl (hst.wp fun v W' hgd => ?_)
    rw [hd]
    have hsl : i < listed.size := by rw [hls]; exact hil
    refine ih _ _ _ (by rw [ec hsl (getD_both hun), if_pos hil]; omega) ⟨by simp [hls], ?_, ?_, fun t ht => ?_, ?_⟩
    · cases ds i with
      | none => exact I.df
      | some d => simp [Act.put, I.df]
    · cases ds i with
      | none => exact I.sz
      | some d => simp [Act.put, I.sz]
    · have hti := ht i (by rw [hsz]; exact hil)
      rw [hds i hil] at hti
      cases hdi : ds i with
      | none => exact I.far t ht
      | some d => rw [hdi] at hti; rw [aE _ (fun e => hti (by rw [e]))]; exact I.far t ht
    · refine ext _ (getO (a'.put (ds i) v) ds) _ _ (fun k hk => (hgo _ k hk).symm) (hgd _ _ ⟨?_, fun hne => ?_, fun j hj hne => ⟨?_, ?_⟩⟩)
      · simp [hsl]
      · unfold getO
        cases hdi : ds i with
        | none => exact absurd hdi hne
        | some d => exact bI _ (by rw [I.sz]; exact (hdd d hdi).1) _
      · exact getD_set_ne false (Ne.symm hne)
      · unfold getO
        cases hdj : ds j with
        | none => rfl
        | some d =>
          cases hdi : ds i with
          | none => rfl
          | some d' => exact aE _ (fun e => (hdd d' hdi).2 j hj (Ne.symm hne) (by rw [hdj, e])) _
 refine wp_region_any hm ?_
 have:=H l.length (Array.replicate l.toArray.size false) a { w with drawn:=w.drawn+1 } (by rw[eG];omega)
  ⟨by simp,rfl,rfl,fun _ _=>rfl,by
   have h:=start (getO a (dsO l.toArray))
   have e:(fun k=>(Array.replicate l.toArray.size false).getD k false)=fun _=>false:=funext fun k=>getD_replicate_false _ _
   rw[e];exact h⟩
 rwa [show l.length=l.toArray.size by simp]at this
end
open Go.RowKit
def StbG (g:Nat) (P:RP):Prop:=∀v W W',P v W->Frm (fun j=>j=g) W W'->P v W'
inductive AllG (g:Nat):List RP->Prop
 | nil:AllG g []
 | cons {P:RP} {l:List RP}:StbG g P->AllG g l->AllG g (P::l)
theorem GL.stabG {g:Nat}:∀{l:List RP},AllG g l->∀i v W W',GL l i v W->Frm (fun j=>j=g) W W'->GL l i v W'
 | _,.nil,_,_,_,_,_,_=>trivial
 | _,.cons h _,0,v,W,W',hg,hb=>h v W W' hg hb
 | _,.cons _ h,i+1,v,W,W',hg,hb=>GL.stabG h i v W W' hg hb
theorem fS (g:Nat) (x:Value):StbG g (Eqv x):=fun _ _ _ h _=>h
def IntP (P:Int->Prop):RP:=fun v _=>∃x,v = .int .i64 x/\P x
theorem cQ (g:Nat) (P:Int->Prop):StbG g (IntP P):=fun _ _ _ h _=>h
def BooP:RP:=fun v _=>∃b,v = .bool b
theorem stg_boo (g:Nat):StbG g BooP:=fun _ _ _ h _=>h
def ivs (xs:List Int):List Value:=xs.map (Value.int .i64)
def SliP (lo n:Nat) (xs:List Int):RP:=fun v W=>∃b,v = .slice (some ⟨b,0,none⟩) n n/\lo<=b/\Cel W b (ivs xs)
theorem stg_sli {g lo:Nat} (hg:g<lo) (n:Nat) (xs:List Int):StbG g (SliP lo n xs):=fun _ _ _ ⟨b,h1,h2,h3⟩ hf=>⟨b,h1,h2,h3.frmN hf (by omega)⟩
def AdrP (lo:Nat) (xs:List Int):RP:=fun v W=>∃b i,v = .pointer (some ⟨b,i,none⟩)/\lo<=b/\i<xs.length/\Cel W b (ivs xs)
theorem stg_adr {g lo:Nat} (hg:g<lo) (xs:List Int):StbG g (AdrP lo xs):=fun _ _ _ ⟨b,i,h1,h2,h4,h3⟩ hf=>⟨b,i,h1,h2,h4,h3.frmN hf (by omega)⟩
theorem stg_alc {g lo:Nat} (hg:g<lo) (cs:List Value):StbG g (Alc lo cs):=fun _ _ _ ⟨b,h1,h2,h3⟩ hf=>⟨b,h1,h2,h3.frmN hf (by omega)⟩
def SomG (g:Nat) (C:Option Addr) (n c:Nat) (bs:List Int) (W:World):Prop:=∃q,SrcG W g C n c bs q
theorem SomG.below {g:Nat} {C:Option Addr} {n c:Nat} {bs:List Int} {W W':World} (h:SomG g C n c bs W) (hb:Below W.heap.size W W'):SomG g C n c bs W':=h.elim fun q h=>⟨q,h.below hb⟩
theorem SomG.alloc {g:Nat} {C:Option Addr} {n c:Nat} {bs:List Int} {W:World} (h:SomG g C n c bs W) (o:Obj):SomG g C n c bs (W.alloc o):=h.below (Bel.alloc W o)
theorem SomG.set {g:Nat} {C:Option Addr} {n c:Nat} {bs:List Int} {W:World} (h:SomG g C n c bs W) {b i:Nat} (hb:g<b) (v:Value):SomG g C n c bs (W.setCell ⟨b,i,none⟩ v):=h.elim fun q h=>⟨q,h.set hb v⟩
theorem SomG.lt {g:Nat} {C:Option Addr} {n c:Nat} {bs:List Int} {W:World} (h:SomG g C n c bs W):g<W.heap.size:=h.elim fun _ h=>h.lt
theorem SomG.frm {O:Nat->Prop} {g:Nat} {C:Option Addr} {n c:Nat} {bs:List Int} {W W':World} (h:SomG g C n c bs W) (hf:Frm O W W') (hO:∀k,O k->g<k):SomG g C n c bs W':=h.elim fun q h=>⟨q,h.frm hf hO⟩
theorem ax {g:Nat} {C:Option Addr} {n c:Nat} {bs:List Int} {W:World} (h:SomG g C n c bs W) {k:Int} (hk:k<=1000000):
  Calls Tryz.prog 154 #[.pointer (some ⟨g,0,none⟩),.int .i64 k] W fun e W'=>∃x,e = .returned (.int .i64 x)/\0<=x/\(x<k\/x=0)/\SomG g C n c bs W'/\Frm (fun j=>j=g) W W':=by
 obtain⟨q,h⟩:=h
 refine (next_any h hk).mono ?_
 rintro e W' ⟨rfl,hs,hf⟩
 obtain⟨h1,h2⟩:=nx_bd bs q k
 exact⟨_,rfl,h1,h2,⟨_,hs⟩,hf⟩
theorem some_from (C:Option Addr) (n c:Nat) (bs:List Int) (W:World) (h:SBy W C n bs) (hn:n<=4096):
  Calls Tryz.prog 72 #[.slice C n c] W fun e W'=>e = .returned (.pointer (some ⟨W.heap.size,0,none⟩))/\SomG W.heap.size C n c bs W'/\Below W.heap.size W W':=by
 refine (l01From_any C n c bs W h hn).mono ?_
 rintro e W' ⟨he,hs,hb⟩
 exact⟨he,⟨_,hs⟩,hb⟩
structure JQ (n:Nat) (S:Nat->Prop) (V:World) (Inv:World->Prop) (G:List RP) (K:List (Nat×List Value)) (T:List (Nat×Nat×List Value×(List Value->Prop))) (L:Nat->Bool) (vs:Nat->Value) (W:World):Prop where
 f:Frm S V W
 i:Inv W
 g:∀k,k<n->L k=true->GL G k (vs k) W
 c:∀x∈K,Cel W x.1 x.2
 t:∀x∈T,(L x.2.1=false->Cel W x.1 x.2.2.1)/\(L x.2.1=true->∃cs,x.2.2.2 cs/\Cel W x.1 cs)
section
variable {n:Nat} {S:Nat->Prop} {V:World} {Inv:World->Prop} {G:List RP} {K:List (Nat×List Value)} {T:List (Nat×Nat×List Value×(List Value->Prop))} {L L':Nat->Bool} {vs vs':Nat->Value} {W W':World} {i:Nat} {v:Value} {ds:Nat->Option Nat}
theorem JQ.ext (h:∀k,k<n->vs k=vs' k) (H:JQ n S V Inv G K T L vs W):JQ n S V Inv G K T L vs' W:=⟨H.f,H.i,fun k hk hl=>by rw[<- h k hk];exact H.g k hk hl,H.c,H.t⟩
theorem JQ.go (H:JQ n S V Inv G K T L vs W) (hu:UpdS n i ds v L vs L' vs') (hT:∀x∈T,x.2.1<n) (hst:∀k v W W',GL G k v W->Frm S W W'->GL G k v W') (hK:∀x∈K,¬S x.1) (hf:Frm S W W') (hi:Inv W')
  (hg:(ds i≠none->GL G i v W')/\(ds i=none->∀u,GL G i u W')) (ht:∀x∈T,(x.2.1≠i->∀cs,Cel W x.1 cs->Cel W' x.1 cs)/\(x.2.1=i->∃cs,x.2.2.2 cs/\Cel W' x.1 cs)):JQ n S V Inv G K T L' vs' W':=by
 obtain⟨u1,u2,u3⟩:=hu
 refine⟨H.f.trans hf,hi,fun k hk hl=>?_,fun x hx=>(H.c x hx).frmN hf (hK x hx),fun x hx=>?_⟩
 ·by_cases e:k=i
  ·subst e
   by_cases hd:ds k=none
   ·exact hg.2 hd _
   ·rw[u2 hd];exact hg.1 hd
  ·obtain⟨e1,e2⟩:=u3 k hk e
   rw[e2]
   exact hst _ _ _ _ (H.g k hk (by rw[<- e1];exact hl)) hf
 ·obtain⟨t1,t2⟩:=H.t x hx
  obtain⟨k1,k2⟩:=ht x hx
  by_cases e:x.2.1=i
  ·refine⟨fun h=>(by rw[e,u1]at h;cases h),fun _=>k2 e⟩
  ·have e1:=(u3 _ (hT x hx) e).1
   refine⟨fun h=>k1 e _ (t1 (by rw[<- e1];exact h)),fun h=>?_⟩
   obtain⟨cs,h1,h2⟩:=t2 (by rw[<- e1];exact h)
   exact⟨cs,h1,k1 e _ h2⟩
theorem JQ.pure (H:JQ n S V Inv G K T L vs W) (hu:UpdS n i ds v L vs L' vs') (hT:∀x∈T,x.2.1<n/\x.2.1≠i) (hst:∀k v W W',GL G k v W->Frm S W W'->GL G k v W') (hK:∀x∈K,¬S x.1) (hd:ds i≠none) (hg:GL G i v W):JQ n S V Inv G K T L' vs' W:=
 H.go hu (fun x hx=>(hT x hx).1) hst hK (Frm.refl _ _) H.i ⟨fun _=>hg,fun h=>absurd h hd⟩ fun x hx=>⟨fun _ _ h=>h,fun e=>absurd e (hT x hx).2⟩
theorem JQ.call {g:Nat} (H:JQ n S V Inv G K T L vs W) (hu:UpdS n i ds v L vs L' vs') (hT:∀x∈T,x.2.1<n/\x.2.1≠i/\x.1≠g) (hst:∀k v W W',GL G k v W->Frm S W W'->GL G k v W') (hK:∀x∈K,¬S x.1) (hd:ds i≠none) (hS:S g) (hf:Frm (fun j=>j=g) W W') (hi:Inv W') (hg:GL G i v W'):JQ n S V Inv G K T L' vs' W':=
 H.go hu (fun x hx=>(hT x hx).1) hst hK (hf.mono fun k hk=>by rw[hk];exact hS) hi ⟨fun _=>hg,fun h=>absurd h hd⟩ fun x hx=>⟨fun _ _ h=>h.frmN hf (hT x hx).2.2,fun e=>absurd e (hT x hx).2.1⟩
theorem JQ.fill {b:Nat} {cs:List Value} (H:JQ n S V Inv G K T L vs W) (hu:UpdS n i ds v L vs L' vs') (hT:∀x∈T,x.2.1<n/\((x.2.1=i/\x.1=b/\x.2.2.2 cs)\/(x.2.1≠i/\x.1≠b))) (hst:∀k v W W',GL G k v W->Frm S W W'->GL G k v W') (hK:∀x∈K,¬S x.1) (hd:ds i=none) (hS:S b) (hf:Frm (fun j=>j=b) W W') (hi:Inv W') (hg:∀u,GL G i u W') (hc:Cel W' b cs):JQ n S V Inv G K T L' vs' W':=
 H.go hu (fun x hx=>(hT x hx).1) hst hK (hf.mono fun k hk=>by rw[hk];exact hS) hi ⟨fun h=>absurd hd h,fun _=>hg⟩ fun x hx=>by
  rcases (hT x hx).2 with⟨h1,h2,h3⟩|⟨h1,h2⟩
  ·exact⟨fun h=>absurd h1 h,fun _=>⟨cs,h3,by rw[h2];exact hc⟩⟩
  ·exact⟨fun _ _ h=>h.frmN hf h2,fun h=>absurd h h1⟩
end
theorem fG (W:World) (b:Nat) (v0 v1:Value):Frm (fun j=>j=b) W ((W.setCell ⟨b,0,none⟩ v0).setCell ⟨b,1,none⟩ v1):=(Frm.set W b 0 v0).trans (Frm.set _ b 1 v1)
theorem fF (W:World) (b:Nat) (v0 v1 v2:Value):Frm (fun j=>j=b) W (((W.setCell ⟨b,0,none⟩ v0).setCell ⟨b,1,none⟩ v1).setCell ⟨b,2,none⟩ v2):=(fG W b v0 v1).trans (Frm.set _ b 2 v2)
theorem kD (W:World) (b:Nat) (v0 v1 v2 v3:Value):Frm (fun j=>j=b) W ((((W.setCell ⟨b,0,none⟩ v0).setCell ⟨b,1,none⟩ v1).setCell ⟨b,2,none⟩ v2).setCell ⟨b,3,none⟩ v3):=(fF W b v0 v1 v2).trans (Frm.set _ b 3 v3)
theorem Cel.st2 {W:World} {b:Nat} {x0 x1:Value} (h:Cel W b [x0,x1]) (v0 v1:Value):Cel ((W.setCell ⟨b,0,none⟩ v0).setCell ⟨b,1,none⟩ v1) b [v0,v1]:=(h.st (i:=0) (v:=v0) (by simp)).st (i:=1) (v:=v1) (by simp)
theorem Cel.st3 {W:World} {b:Nat} {x0 x1 x2:Value} (h:Cel W b [x0,x1,x2]) (v0 v1 v2:Value):Cel (((W.setCell ⟨b,0,none⟩ v0).setCell ⟨b,1,none⟩ v1).setCell ⟨b,2,none⟩ v2) b [v0,v1,v2]:=((h.st (i:=0) (v:=v0) (by simp)).st (i:=1) (v:=v1) (by simp)).st (i:=2) (v:=v2) (by simp)
theorem Cel.st4 {W:World} {b:Nat} {x0 x1 x2 x3:Value} (h:Cel W b [x0,x1,x2,x3]) (v0 v1 v2 v3:Value):Cel ((((W.setCell ⟨b,0,none⟩ v0).setCell ⟨b,1,none⟩ v1).setCell ⟨b,2,none⟩ v2).setCell ⟨b,3,none⟩ v3) b [v0,v1,v2,v3]:=(((h.st (i:=0) (v:=v0) (by simp)).st (i:=1) (v:=v1) (by simp)).st (i:=2) (v:=v2) (by simp)).st (i:=3) (v:=v3) (by simp)
def DrV (p c h s:Int):Prop:=0<=p/\p<=24/\0<=c/\c<=16/\0<=h/\h<=7/\0<=s/\s<=7
def RetGV (g:Nat) (C:Option Addr) (n cc:Nat) (bs:List Int) (W:World) (e:Ending) (W':World):Prop:=
 ∃p c h s,e = .returned (.agg #[.int .i64 p,.int .i64 c,.int .i64 h,.int .i64 s])/\DrV p c h s/\SomG g C n cc bs W'/\Frm (fun j=>j=g) W W'
def DrM (m:Int):Prop:=-10<=m/\m<=3000
def RetGR (g:Nat) (C:Option Addr) (n cc:Nat) (bs:List Int) (W:World) (e:Ending) (W':World):Prop:=
 ∃m b j,e = .returned (.agg #[.int .i64 m,.bool b,.bool j])/\DrM m/\SomG g C n cc bs W'/\Frm (fun j=>j=g) W W'
def RetGP (g:Nat) (C:Option Addr) (n cc:Nat) (bs:List Int) (W:World) (e:Ending) (W':World):Prop:=
 ∃v xs,e = .returned v/\OwnS W' W.heap.size 2 v xs/\xs.length<=30/\SomG g C n cc bs W'/\Frm (fun j=>j=g) W W'
def DrC (v o:Int):Prop:=0<=v/\v<=4000/\-1<=o/\o<=4
def RetGC (g:Nat) (C:Option Addr) (n cc:Nat) (bs:List Int) (W:World) (e:Ending) (W':World):Prop:=
 ∃v o,e = .returned (.agg #[.int .i64 v,.int .i64 o])/\DrC v o/\SomG g C n cc bs W'/\Frm (fun j=>j=g) W W'
open Go.RowKit
theorem gi (g:Nat) (C:Option Addr) (n c:Nat) (bs:List Int) (W:World) (hs:SomG g C n c bs W):
  Calls Tryz.prog 182 #[.pointer (some ⟨g,0,none⟩)] W (RetGV g C n c bs W):=by
 have hg:=hs.lt
 have HF0:Hid (FrS (fun j=>j=g) W (W.alloc (.cells #[.int .i64 0,.int .i64 0,.int .i64 0,.int .i64 0] 25)) [[.int .i64 0,.int .i64 0,.int .i64 0,.int .i64 0]]):=(FrS.start W (fun k hk=>by rw[hk];exact hg)).allocT (by simp) _ _
 have HS0:=h_ (hs.alloc (.cells #[.int .i64 0,.int .i64 0,.int .i64 0,.int .i64 0] 25));clear hs
 go_enter Tryz.func182,Tryz.ntmps182
 go_wp2_with (fail)
 refine (ax HS0.out (k:=3) (by omega)).mono ?_
 rintro e w1 ⟨x1,rfl,lx1,ux1,hs,hf⟩
 have HS1:=h_ hs;have HF1:=h_ (HF0.out.frm hf);clear hs hf HS0 HF0
 go_wp2_with (fail)
 refine (ax HS1.out (k:=2) (by omega)).mono ?_
 rintro e w2 ⟨x2,rfl,lx2,ux2,hs,hf⟩
 have HS2:=h_ hs;have HF2:=h_ (HF1.out.frm hf);clear hs hf HS1 HF1
 go_wp2_with (fail)
 refine (ax HS2.out (k:=2) (by omega)).mono ?_
 rintro e w3 ⟨x3,rfl,lx3,ux3,hs,hf⟩
 have HS3:=h_ hs;have HF3:=h_ (HF2.out.frm hf);clear hs hf HS2 HF2
 go_wp2_with (fail)
 refine (ax HS3.out (k:=3) (by omega)).mono ?_
 rintro e w4 ⟨x4,rfl,lx4,ux4,hs,hf⟩
 have HS4:=h_ hs;have HF4:=h_ (HF3.out.frm hf);clear hs hf HS3 HF3
 go_wp2_with (fail)
 obtain⟨p,hp⟩:∃p,p=4+x1:=⟨_,rfl⟩;obtain⟨cc,hcc⟩:∃cc,cc=1+x2:=⟨_,rfl⟩;obtain⟨h,hh⟩:∃h,h=1+x3:=⟨_,rfl⟩;obtain⟨s,hs⟩:∃s,s=1+x4:=⟨_,rfl⟩;rw[<- hp,<- hcc,<- hh,<- hs]
 have hpb:0<=p/\p<=20/\0<=cc/\cc<=10/\0<=h/\h<=7/\0<=s/\s<=7:=by omega
 clear hp hcc hh hs lx1 ux1 lx2 ux2 lx3 ux3 lx4 ux4;have HSA:=h_ (HS4.out.alloc (.cells #[.int .i64 p,.int .i64 cc,.int .i64 h,.int .i64 s] 25));have HFA:=h_ (HF4.out.alloc (.cells #[.int .i64 p,.int .i64 cc,.int .i64 h,.int .i64 s] 25));have HCA:Hid (Cel (w4.alloc (.cells #[.int .i64 p,.int .i64 cc,.int .i64 h,.int .i64 s] 25)) w4.heap.size [.int .i64 p,.int .i64 cc,.int .i64 h,.int .i64 s]):=Cel.new w4 #[.int .i64 p,.int .i64 cc,.int .i64 h,.int .i64 s] _;have hgv:g<w4.heap.size:=HS4.out.lt
 have hwv:W.heap.size+1<=w4.heap.size:=by have:=HF4.out.z;simpa using this
 clear HS4 HF4;generalize w4.alloc (.cells #[.int .i64 p,.int .i64 cc,.int .i64 h,.int .i64 s] 25)=w5 at *;generalize w4.heap.size=gv at *
 refine (ax HSA.out (k:=40) (by omega)).mono ?_
 rintro e w6 ⟨k4,rfl,lk4,uk4,hs,hf⟩
 have HS6:=h_ hs;have HF6:=h_ (HFA.out.frm hf)
 have HC6:=h_ (HCA.out.frmN hf (by omega))
 clear hs hf HSA HFA HCA
 have hn1:¬W.heap.size=gv:=by omega
 have hn2:¬gv=W.heap.size:=by omega
 by_cases h0:k4=0
 focus
  subst h0
  go_wp2_with (fail)
  have HS7:=h_ (HS6.out.alloc (.cells (ivs [0,6,7]).toArray 2));have HF7:=h_ (HF6.out.alloc (.cells (ivs [0,6,7]).toArray 2));have HC7:=h_ (HC6.out.alloc (.cells (ivs [0,6,7]).toArray 2));have HL7:Hid (Cel (w6.alloc (.cells (ivs [0,6,7]).toArray 2)) w6.heap.size (ivs [0,6,7])):=Cel.new w6 (ivs [0,6,7]).toArray _;have hgs:gv<w6.heap.size:=HC6.out.lt
  simp only[ivs,List.map_cons,List.map_nil]at HS7 HF7 HC7 HL7
  clear HS6 HF6 HC6;generalize w6.alloc (.cells #[.int .i64 0,.int .i64 6,.int .i64 7] 2)=w7 at *;generalize w6.heap.size=gs at *
  refine ?zc
 rotate_left
 have b0:(k4 == 0)=false:=by simp[h0]
 by_cases h1:k4=1
 focus
  subst h1
  go_wp2_with (fail)
  have HS7:=h_ (HS6.out.alloc (.cells (ivs [0,15,16]).toArray 2));have HF7:=h_ (HF6.out.alloc (.cells (ivs [0,15,16]).toArray 2));have HC7:=h_ (HC6.out.alloc (.cells (ivs [0,15,16]).toArray 2));have HL7:Hid (Cel (w6.alloc (.cells (ivs [0,15,16]).toArray 2)) w6.heap.size (ivs [0,15,16])):=Cel.new w6 (ivs [0,15,16]).toArray _;have hgs:gv<w6.heap.size:=HC6.out.lt
  simp only[ivs,List.map_cons,List.map_nil]at HS7 HF7 HC7 HL7
  clear HS6 HF6 HC6;generalize w6.alloc (.cells #[.int .i64 0,.int .i64 15,.int .i64 16] 2)=w7 at *;generalize w6.heap.size=gs at *
  refine ?zd
 rotate_left
 have b1:(k4 == 1)=false:=by simp[h1]
 have HFZ:=HF6;have HSZ:=HS6;obtain⟨z0,c00,f00,c01,f01,c02,f02,c03,f03⟩:=HFZ.out.xf2;have v0:=HC6.out.cell 0 _ rfl;have v1:=HC6.out.cell 1 _ rfl;have v2:=HC6.out.cell 2 _ rfl;have v3:=HC6.out.cell 3 _ rfl;have vf0:=HC6.out.froz 0 _ rfl;have vf1:=HC6.out.froz 1 _ rfl;have vf2:=HC6.out.froz 2 _ rfl;have vf3:=HC6.out.froz 3 _ rfl;have vz:=HC6.out.lt
 by_cases h2:k4=2
 focus
  subst h2
  go_wp2_with (fail)
  refine bodyPost_ret (v:=.agg #[.int .i64 24,.int .i64 15,.int .i64 6,.int .i64 6]) (by simp[results,Tryz.results182,go_sem,z0,c00,c01,c02,c03,f00,f01,f02,f03]) rfl ?_
  refine⟨24,15,6,6,rfl,?_,?_,?_⟩
  ·refine⟨?_,?_,?_,?_,?_,?_,?_,?_⟩<;>omega
  focus
   refine ?zj
  rotate_left
  focus
   refine ?ze
 rotate_left 2
 have b2:(k4 == 2)=false:=by simp[h2]
 by_cases h3:k4=3
 focus
  subst h3
  go_wp2_with (fail)
  refine bodyPost_ret (v:=.agg #[.int .i64 p,.int .i64 3,.int .i64 h,.int .i64 s]) (by simp[results,Tryz.results182,go_sem,z0,c00,c01,c02,c03,f00,f01,f02,f03]) rfl ?_
  refine⟨p,3,h,s,rfl,?_,?_,?_⟩
  ·refine⟨?_,?_,?_,?_,?_,?_,?_,?_⟩<;>omega
  focus
   refine ?zk
  rotate_left
  focus
   refine ?zf
 rotate_left 2
 focus
  have b3:(k4 == 3)=false:=by simp[h3]
  go_wp2_with (fail)
  refine bodyPost_ret (v:=.agg #[.int .i64 p,.int .i64 cc,.int .i64 h,.int .i64 s]) (by simp[results,Tryz.results182,go_sem,z0,c00,c01,c02,c03,f00,f01,f02,f03]) rfl ?_
  refine⟨p,cc,h,s,rfl,?_,?_,?_⟩
  ·refine⟨?_,?_,?_,?_,?_,?_,?_,?_⟩<;>omega
  focus
   refine ?zl
  rotate_left
  focus
   refine ?zg
 rotate_left 2
 case' zc|zd=>
  refine (ax HS7.out (k:=3) (by omega)).mono ?_
  rintro e w8 ⟨x5,rfl,lx5,ux5,hs,hf⟩
  have HS8:=h_ hs;have HF8:=h_ (HF7.out.frm hf)
  have HC8:=h_ (HC7.out.frmN hf (by omega))
  have HL8:=h_ (HL7.out.frmN hf (by omega))
  clear hs hf HS7 HF7 HC7 HL7
  obtain⟨k,rfl⟩:∃k:Nat,x5=k:=⟨x5.toNat,by omega⟩
  have hk3:(k:Int)<3:=by omega
 case' zc=>
  obtain⟨y,hy,yc⟩:∃y:Int,(0<=y/\y<=7)/\w8.cell? ⟨gs,k,none⟩=some (.int .i64 y):=by
   have hk:k=0\/k=1\/k=2:=by omega
   rcases hk with rfl|rfl|rfl
   all_goals exact⟨_,by decide,HL8.out.cell _ _ rfl⟩
 case' zd=>
  obtain⟨y,hy,yc⟩:∃y:Int,(0<=y/\y<=16)/\w8.cell? ⟨gs,k,none⟩=some (.int .i64 y):=by
   have hk:k=0\/k=1\/k=2:=by omega
   rcases hk with rfl|rfl|rfl
   all_goals exact⟨_,by decide,HL8.out.cell _ _ rfl⟩
 case' zc|zd=>
  have hs8:gs<w8.heap.size:=HL8.out.lt;have HFZ:=HF8;have HSZ:=HS8
  have hn3:¬gs=gv:=by omega
  have hn4:¬gv=gs:=by omega
  have hn5:¬gs=W.heap.size:=by omega
  have hn6:¬W.heap.size=gs:=by omega
  obtain⟨z0,c00,f00,c01,f01,c02,f02,c03,f03⟩:=HFZ.out.xf2;have v0:=HC8.out.cell 0 _ rfl;have v1:=HC8.out.cell 1 _ rfl;have v2:=HC8.out.cell 2 _ rfl;have v3:=HC8.out.cell 3 _ rfl;have vf0:=HC8.out.froz 0 _ rfl;have vf1:=HC8.out.froz 1 _ rfl;have vf2:=HC8.out.froz 2 _ rfl;have vf3:=HC8.out.froz 3 _ rfl;have vz:=HC8.out.lt
  go_wp2_with (fail)
 case' zc=>
  refine bodyPost_ret (v:=.agg #[.int .i64 p,.int .i64 cc,.int .i64 y,.int .i64 s]) (by simp[results,Tryz.results182,go_sem,z0,c00,c01,c02,c03,f00,f01,f02,f03]) rfl ?_
  refine⟨p,cc,y,s,rfl,?_,?_,?_⟩
  ·refine⟨?_,?_,?_,?_,?_,?_,?_,?_⟩<;>omega
  focus
   refine ?zm
  rotate_left
  focus
   refine ?zh
 case' zd=>
  refine bodyPost_ret (v:=.agg #[.int .i64 p,.int .i64 y,.int .i64 h,.int .i64 s]) (by simp[results,Tryz.results182,go_sem,z0,c00,c01,c02,c03,f00,f01,f02,f03]) rfl ?_
  refine⟨p,y,h,s,rfl,?_,?_,?_⟩
  ·refine⟨?_,?_,?_,?_,?_,?_,?_,?_⟩<;>omega
  focus
   refine ?zn
  rotate_left
  focus
   refine ?zi
 case ze|zf|zg|zh|zi=>
  repeat (with_reducible first|exact HFZ.out.f|refine Frm.ownSet ?_ (by omega) _)
 case zj|zk|zl|zm|zn=>
  repeat (with_reducible first|exact HSZ.out|refine SomG.set ?_ (by omega) _)
end Go.Proofs.YtkaiilmgemaljaaGreat

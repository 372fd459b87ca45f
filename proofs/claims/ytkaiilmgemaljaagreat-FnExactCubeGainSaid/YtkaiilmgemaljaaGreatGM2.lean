/- Part of one proof. There are no conditions. -/
import Derived.Test.YtkaiilmgemaljaaGreatGM3
import Derived.Test.YtkaiilmgemaljaaGreatGZo
set_option linter.unusedVariables false
set_option linter.unusedSimpArgs false
namespace Go.Proofs.YtkaiilmgemaljaaGreat.Mo
open Go.Proofs.YtkaiilmgemaljaaGreat.Ex Go.Proofs.YtkaiilmgemaljaaGreat.Ps Go.Proofs.YtkaiilmgemaljaaGreat.Ra
section
variable {B:Int} {r:Ru} {R:RF} {own other:List Int} {c:Cb}
theorem bevG_val (hR:∀c e,R own other c=some e->Val B e) {y:E×Bool} (h:bevG B r R own other c=some y):Val B y.1:=by
 unfold bevG at h
 cases hx:R own other (4*c.1,2) with
 | none=>rw[hx]at h;cases h
 | some x =>
   rw [hx, Option.bind_some] at h
   split at h
   · cases hy : R own other (8 * c.1, 2) with
     | none => rw [hy] at h; cases h
     | some y' =>
       rw [hy, Option.map_some] at h; injection h with h; subst h
       split
       · exact hR _ _ hy
       · exact hR _ _ hx
   · injection h with h; subst h; exact hR _ _ hx
def les (B:Int) (x:E) (c:Cb):E:=if ltE B x (whl c.1) then x else whl c.1
def lesA (B:Int) (x:E) (c:Cb):Int:=if ltE B x (whl c.1) then 1 else 2
theorem les_val {x:E} (hx:Val B x) (hc:Val B (whl c.1)):Val B (les B x c):=by unfold les;split<;>assumption
theorem kh:dblG B r R own other c=(R own other (2*c.1,2)).bind fun x=>
  if bvr r c then (bevG B r R own other c).map fun y=>if ltE B y.1 (les B x c) then (y.1,if y.2 then 4 else 3) else (les B x c,lesA B x c) else some (les B x c,lesA B x c):=by
 unfold dblG les lesA
 congr 1
 funext x
 by_cases h:ltE B x (whl c.1)=true
 ·simp[h]
 ·simp[h]
theorem dblG_val (hR:∀c e,R own other c=some e->Val B e) (hc:Val B (whl c.1)) {y:E×Int} (h:dblG B r R own other c=some y):Val B y.1:=by
 rw[kh]at h
 cases hx:R own other (2*c.1,2) with
 | none=>rw[hx]at h;cases h
 | some x =>
   rw [hx, Option.bind_some] at h; have hl := les_val (hR _ _ hx) hc
   split at h
   · cases hy : bevG B r R own other c with
     | none => rw [hy] at h; cases h
     | some y' =>
       rw [hy, Option.map_some] at h; injection h with h; subst h
       split
       · exact bevG_val hR hy
       · exact hl
   · injection h with h; subst h; exact hl
theorem eqG_val (hR:∀c e,R own other c=some e->Val B e) (hc:Val B (whl c.1)) (hc2:Val B (whl (-c.1))) {y:E} (h:eqG B r R own other c=some y):Val B y:=by
 unfold eqG at h
 split at h
 ·injection h with h;subst h;exact hc
 ·split at h
  ·injection h with h;subst h;exact hc2
  ·cases hx:R own other c with
   | none=>rw[hx]at h;cases h
   | some x =>
     rw [hx, Option.bind_some] at h
     split at h
     · cases hy : dblG B r R own other c with
       | none => rw [hy] at h; cases h
       | some y' =>
         rw [hy, Option.map_some] at h; injection h with h; subst h
         split
         · exact dblG_val hR hc hy
         · exact hR _ _ hx
     · injection h with h; subst h; exact hR _ _ hx
end
theorem rolF_val {s:Nat} (hB:1<=sq s) {r:Ru}:∀(f:Nat) {own other:List Int} {c:Cb} {e:E},rolF s r f own other c=some e->Val (sq s) e
 | 0,own,other,c,e,h=>by cases h
 | f + 1, own, other, c, e, h => by
   unfold rolF at h
   cases hs : allS (fun ro => (bestS (sq s) (fun q => (eqG (sq s) r (rolF s r f) other q (swp c)).map negE) (resultsL own ro.1 ro.2)).map fun t => t.2.2) (ae s) with
   | none => rw [hs] at h; cases h
   | some xs => rw [hs] at h; exact meanE_val hB h
theorem eu {s:Nat} (hB:1<=sq s) {r:Ru} {own other:List Int} {c:Cb} {e:E} (h:rol s r own other c=some e):Val (sq s) e:=rolF_val hB _ h
theorem dM {B:Int} {n:Int} (h1 : -100000<=n) (h2:n<=100000):Val B (whl n):=whl_val (by unfold aA;omega) (by unfold aA;omega)
theorem kd {s:Nat} (hB:1<=sq s) {r:Ru} {own other:List Int} {c:Cb} (h0 : -100000<=c.1) (h1:c.1<=100000) {e:E} (h:eqv s r own other c=some e):Val (sq s) e:=
 eqG_val (fun c e h=>eu hB h) (dM (by omega) (by omega)) (dM (by omega) (by omega)) h
theorem iD (c:Cb):(swp c).1=c.1:=by
 unfold swp
 split
 ·rfl
 ·split<;>rfl
theorem j3 {s:Nat} (hB:1<=sq s) {r:Ru} {other:List Int} {c:Cb} (h0 : -100000<=c.1) (h1:c.1<=100000) {q:List Int} {e:E} (h:neqv s r other c q=some e):Val (sq s) e:=by
 unfold neqv at h
 cases hx:eqv s r other q (swp c) with
 | none=>rw[hx]at h;cases h
 | some x =>
   rw [hx, Option.map_some] at h; injection h with h; subst h
   exact du (kd hB (by rw [iD]; exact h0) (by rw [iD]; exact h1) hx)
theorem mroll_val {s:Nat} (hB:1<=sq s) {r:Ru} {own other:List Int} {c:Cb} (h0 : -100000<=c.1) (h1:c.1<=100000) (ro:Nat×Nat) (e:E) (h:mroll s r own other c ro=some e):Val (sq s) e:=by
 unfold mroll mbest at h
 cases hb:bestS (sq s) (neqv s r other c) (resultsL own ro.1 ro.2) with
 | none=>rw[hb]at h;cases h
 | some u =>
   rw [hb] at h
   simp only [Option.map_some, Option.some.injEq] at h
   subst h
   exact eL hB (fun q x h => j3 hB h0 h1 h) hb
theorem gC (s:Nat) (r:Ru) (own other:List Int) (c:Cb) (a b:Nat):mroll s r own other c (a,b)=(bestS (sq s) (neqv s r other c) (resultsL own a b)).map fun t=>t.2.2:=rfl
end Go.Proofs.YtkaiilmgemaljaaGreat.Mo

/- Joined texts of one proof: N38, N39. Each part tells what it shows. There are no conditions. -/
import Derived.Test.YtgjapehpkakkbaaGreatLZo
import Derived.Test.YtgjapehpkakkbaaGreatLN13
set_option linter.unusedVariables false
set_option linter.unusedSimpArgs false
/- Contract of a win chance's computation, out of the program's race table. There are no conditions. -/
namespace Go.Proofs.YtgjapehpkakkbaaGreat
open Go.RowKit Ps Ra Ex Go.Maps
theorem Tryz.infoE:(Tryz.prog.info? 35).map (fun i=>(i.zero,i.size,i.bytes))=some (some (.agg #[.int .i64 0,.int .i64 0]),2,16):=by kernel_rfl
theorem allS_val {B:Int} {g:Nat×Nat→Option E} (hg:∀r x,g r=some x→Val B x) {l:List (Nat×Nat)}:∀{xs:List E},allS g l=some xs→∀x∈xs,Val B x:=by
 induction l using snoc_ind with
 | nil=>intro xs h x hx;unfold allS at h;simp at h;subst h;simp at hx
 | snoc l r ih =>
   intro xs h x hx
   rw [allS_snoc] at h
   cases hs : allS g l with
   | none => rw [hs] at h; cases h
   | some u =>
     rw [hs] at h
     cases hr : g r with
     | none => rw [hr] at h; cases h
     | some y =>
       rw [hr] at h
       simp only [Option.bind_some, Option.map_some, Option.some.injEq] at h
       subst h
       rcases List.mem_append.1 hx with hx | hx
       · exact ih hs x hx
       · have : x = y := by simpa using hx
         rw [this]; exact hg r y hr
theorem allS_stop {g:Nat×Nat→Option E} {l:List (Nat×Nat)} {k:Nat} (hk:k<l.length) {xs:List E} (hs:allS g (l.take k)=some xs) (hr:g (l.getD k (0,0))=none):allS g l=none:=by
 have h1:allS g (l.take (k+1))=none:=by rw[take_snoc_getD l (0,0) hk,allS_snoc,hs,hr];rfl
 have:=allS_none (k:=l.drop (k+1)) h1
 rwa [List.take_append_drop]at this
theorem allS_go {g:Nat×Nat→Option E} {l:List (Nat×Nat)} {k:Nat} (hk:k<l.length) {xs:List E} {x:E} (hs:allS g (l.take k)=some xs) (hr:g (l.getD k (0,0))=some x):allS g (l.take (k+1))=some (xs++[x]):=by
 rw[take_snoc_getD l (0,0) hk,allS_snoc,hs,hr];rfl
def OwnE (w:World) (base:Nat) (v:Value) (xs:List E):Prop:=w.ownsRow base 35 2 v xs.length (exC xs)
theorem OwnE.el {w:World} {base:Nat} {v:Value} {xs:List E} (h:OwnE w base v xs):∃A c,v = .slice A xs.length c∧EL (fun _=>False) w A xs.length xs∧xs.length≤c:=by
 obtain⟨A,c,hv,hs,hc⟩:=row_read (S:=fun _=>False) h (fun k hk h=>h) (by omega)
 exact⟨A,c,hv,⟨rfl,hs⟩,hc⟩
end Go.Proofs.YtgjapehpkakkbaaGreat
/- Contract of a win chance, out of the program's race table. There are no conditions. -/
namespace Go.Proofs.YtgjapehpkakkbaaGreat
open Go.RowKit Ps Ra Ex Go.Maps
end Go.Proofs.YtgjapehpkakkbaaGreat
/- Part of one proof. There are no conditions. -/
import Derived.Test.YtkaiilmgemaljaaGreatTZk
import Derived.Test.YtkaiilmgemaljaaGreatTZm
import Derived.Test.YtkaiilmgemaljaaGreatTZl
import Derived.Test.YtkaiilmgemaljaaGreatTN14
import Derived.Test.YtkaiilmgemaljaaGreatTL6
import Derived.Test.YtkaiilmgemaljaaGreatTU4
import Derived.Test.YtkaiilmgemaljaaGreatTZv
import Derived.Test.YtkaiilmgemaljaaGreatTN64
import Derived.Test.YtkaiilmgemaljaaGreatTN69
import Derived.Test.YtkaiilmgemaljaaGreatTN53
set_option linter.unusedVariables false
set_option linter.unusedSimpArgs false
namespace Go.Proofs.YtkaiilmgemaljaaGreat
open Go.RowKit Ps Ra Ex
theorem neq_exact (a b a' b':Int) (w:World):(binOp .neq 35 (.agg #[.int .i64 a,.int .i64 b]) (.agg #[.int .i64 a',.int .i64 b'])).run Tryz.prog w = .ok (.bool (!decide (a=a'/\b=b'))) w:=by
 have u3:=Tryz.underlying2
 have hS:Tryz.prog.underlying 35=some (.struct (Tryz.prog.fieldsOf 35)):=by kernel_rfl
 have hp:Tryz.prog.stoodInHeld 35=false:=by kernel_rfl
 rw[run_neq_struct,show (10000:Nat)=9999+1 from rfl,run_equalIn_agg w 9999 35 _ _ hS hp]
 simp only[Program.fieldsOf,Tryz.underlying35]
 go_simp
 by_cases h1:a=a'<;>by_cases h2:b=b'<;>simp[h1,h2]
theorem fM (a b a' b':Int) (w:World):(binOp .eql 35 (.agg #[.int .i64 a,.int .i64 b]) (.agg #[.int .i64 a',.int .i64 b'])).run Tryz.prog w = .ok (.bool (decide (a=a'/\b=b'))) w:=by
 have u3:=Tryz.underlying2
 have hS:Tryz.prog.underlying 35=some (.struct (Tryz.prog.fieldsOf 35)):=by kernel_rfl
 have hp:Tryz.prog.stoodInHeld 35=false:=by kernel_rfl
 rw[run_eql_struct,show (10000:Nat)=9999+1 from rfl,run_equalIn_agg w 9999 35 _ _ hS hp]
 simp only[Program.fieldsOf,Tryz.underlying35]
 go_simp
 by_cases h1:a=a'<;>by_cases h2:b=b'<;>simp[h1,h2]
theorem big_any (A:Option Addr) (n c:Nat) (w:World):Calls Tryz.prog 14 #[.slice A n c] w fun e w'=>e = .returned (.bool (decide (4096<n)))/\w=w':=by
 go_enter Tryz.func14,Tryz.ntmps14
 go_wp2_with (fail)
 go_ret
 exact⟨by by_cases h:4096<n<;>simp[h]<;>omega,rfl⟩
theorem OwnE.base {w:World} {b b':Nat} {v:Value} {xs:List E} (h:OwnE w b v xs) (hb:b'<=b):OwnE w b' v xs:=by
 obtain⟨h1,h2⟩:=h
 refine⟨h1,h2.imp id ?_⟩
 rintro⟨g,cap,cur,hv,hg,r⟩
 exact⟨g,cap,cur,hv,Nat.le_trans hb hg,r⟩
theorem OwnE.readS {S:Nat->Prop} {w:World} {base:Nat} {v:Value} {xs:List E} {n:Nat} (h:OwnE w base v xs) (hn:xs.length=n) (hS:∀k,base<=k->¬S k):∃A c,v = .slice A n c/\EL S w A n xs/\n<=c:=by
 subst hn
 obtain⟨A,c,hv,hs,hc⟩:=cV (S:=S) h (fun k hk=>hS k (World.ownsRow.lt h k hk).1) (by omega)
 exact⟨A,c,hv,⟨rfl,hs⟩,hc⟩
theorem bel_set' {B:Nat} {w w':World} (h:Below B w w') {b i:Nat} (hb:B<=b) (v:Value):Below B w (w'.setCell ⟨b,i,none⟩ v):=h.setCell hb v
end Go.Proofs.YtkaiilmgemaljaaGreat

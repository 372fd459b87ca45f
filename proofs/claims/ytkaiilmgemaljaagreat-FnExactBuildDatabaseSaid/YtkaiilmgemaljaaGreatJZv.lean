/- Joined texts of one proof: N27, N46, N47, N48, N49. Each part tells what it shows. There are no conditions. -/
import Derived.Test.YtkaiilmgemaljaaGreatJZu
import Derived.Test.YtkaiilmgemaljaaGreatJZb
import Derived.Test.YtkaiilmgemaljaaGreatJZl
set_option linter.unusedVariables false
set_option linter.unusedSimpArgs false
/- Contract of the check of a variant and positions with tables, the program's. There are no conditions. -/
namespace Go.Proofs.YtkaiilmgemaljaaGreat
open Go.RowKit Ps
def PLx (w:World) (A:Option Addr) (n:Nat) (ps:List (List Int)):Prop:=
 ps.length=n∧(0<n→∃b off,A=some ⟨b,off,none⟩∧b<w.heap.size∧∀k,k<n→∃B m c,w.cell? ⟨b,off+k,none⟩=some (.slice B m c)∧SL w B m (ps.getD k []))
theorem PLx.below {w w':World} {A:Option Addr} {n:Nat} {ps:List (List Int)} (h:PLx w A n ps) (hb:Below w.heap.size w w'):PLx w' A n ps:=by
 refine⟨h.1,fun hn=>?_⟩
 obtain⟨b,off,hA,hlt,hc⟩:=h.2 hn
 refine⟨b,off,hA,Nat.lt_of_lt_of_le hlt hb.size,fun k hk=>?_⟩
 obtain⟨B,m,c,h1,h2⟩:=hc k hk
 exact⟨B,m,c,keep_cell h1 hb,h2.below hb⟩
end Go.Proofs.YtkaiilmgemaljaaGreat
/- Contract of the program's WinChance. There are no conditions. -/
namespace Go.Proofs.YtkaiilmgemaljaaGreat
open Go.RowKit Ps Ra Ex
end Go.Proofs.YtkaiilmgemaljaaGreat
/- Contracts of the reference's check of a race and of its WinChance. There are no conditions. -/
namespace Go.Proofs.YtkaiilmgemaljaaGreat
open Go.RowKit Ps Ra Ex
end Go.Proofs.YtkaiilmgemaljaaGreat
/- Contract of the reference's WinChance. There are no conditions. -/
namespace Go.Proofs.YtkaiilmgemaljaaGreat
open Go.RowKit Ps Ra Ex
theorem l12Value_any (t:RT2) (ht:t.Ok):∀(f:Nat) {own other:List Int},PosP t.h t.c own→PosP t.h t.c other→pips own+pips other<f→ValC t own other
 | 0,own,other,hq,hq2,h=>by have:=pips_nonneg hq.2.1;have:=pips_nonneg hq2.2.1;omega
 | f+1,own,other,hq,hq2,h=>l12Value_step t ht hq hq2 fun _ q hp hlt=>l12Value_any t ht f hq2 hp (by omega)
theorem l12Value_all (t:RT2) (ht:t.Ok) {own other:List Int} (hq:PosP t.h t.c own) (hq2:PosP t.h t.c other):ValC t own other:=by
 have h1:=pips_nonneg hq.2.1;have h2:=pips_nonneg hq2.2.1
 exact l12Value_any t ht ((pips own+pips other).toNat+1) hq hq2 (by omega)
end Go.Proofs.YtkaiilmgemaljaaGreat
/- The statement FnExactWinChance, the law's walk. There are no conditions. -/
namespace Go.Proofs.YtkaiilmgemaljaaGreat
open Go.RowKit Ps Ra Ex
theorem eqExact_yes (m d:Int) (w:World):
  Calls Tryz.prog 60 #[.agg #[.int .i64 m,.int .i64 d],.agg #[.int .i64 m,.int .i64 d]] w fun e w'=>e = .returned (.bool true)∧Below w.heap.size w w':=by
 have h1:(m != m)=false:=by simp
 have h2:(d != d)=false:=by simp
 go_enter Tryz.func60,Tryz.ntmps60
 go_wp2
 go_ret
 exact⟨rfl,((Below.refl _ _).alloc (Nat.le_refl _) _).alloc (by simp) _⟩
end Go.Proofs.YtkaiilmgemaljaaGreat

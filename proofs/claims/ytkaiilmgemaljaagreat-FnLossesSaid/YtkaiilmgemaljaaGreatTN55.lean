/- Part of one proof. There are no conditions. -/
import Derived.Test.YtkaiilmgemaljaaGreatTZl
import Derived.Test.YtkaiilmgemaljaaGreatTZv
import Derived.Test.YtkaiilmgemaljaaGreatTN52
set_option linter.unusedVariables false
set_option linter.unusedSimpArgs false
namespace Go.Proofs.YtkaiilmgemaljaaGreat
open Go.RowKit Ps Ra Ex
theorem best_new {t:RT} {W:World} {c h s a b:Nat} {own other:List Int} {A B:Option Addr} {ca cb:Nat} (hc':t.c=c) (hh':t.h=h) (hs':t.s=s) (hok:t.Ok) (hI:RaceI t t.S W)
  (hp1:PosP h c own) (hp2:PosP h c other) (hs0:own.sum≠0) (ha1:1<=a) (ha2:a<=s) (hb1:1<=b) (hb2:b<=a) (hA:SQ t.S W A h own) (hB:SQ t.S W B h other) (hca:h<=ca) (hcb:h<=cb):
  Calls Tryz.prog 76 #[.pointer (some ⟨t.bt,0,none⟩),.slice A h ca,.slice B h cb,.int .i64 (rollNo a b:Nat)] W (iC t t.S W (resultsL own a b) (bestS (sq s) (sec s other) (resultsL own a b))):=by
 subst hc' hh' hs';have hv:=aw hok.v
 obtain⟨r1,r2⟩:=rollNo_at (s:=t.s) (by omega) ha1 ha2 hb1 hb2
 exact jM t hok hp1 hs0 (rollNo a b) a b (by rw[<- hok.r];exact r2) r1 (fun q hq=>dr t hok (jh t hok hp2 (ax (by omega) hb1 hp1 q hq).1)) t.S A B ca cb W (fun k hk h=>by have:=hI.ltS k h;omega) hI hA hca hB hcb
theorem second_at {t:RT} {W:World} {c h s:Nat} {own other:List Int} {A B:Option Addr} {ca cb:Nat} (hc':t.c=c) (hh':t.h=h) (hs':t.s=s) (hok:t.Ok) (hI:RaceI t t.S W)
  (hp1:PosP h c own) (hp2:PosP h c other) (hA:SQ t.S W A h own) (hB:SQ t.S W B h other) (hca:h<=ca) (hcb:h<=cb):
  Calls Tryz.prog 98 #[.pointer (some ⟨t.bt,0,none⟩),.slice A h ca,.slice B h cb] W (RetWn t t.S W (sec s other own)):=by
 subst hc' hh' hs'
 exact dr t hok (jh t hok hp2 hp1) t.S A B ca cb W (fun k hk h=>by have:=hI.ltS k h;omega) hI hA hca hB hcb
end Go.Proofs.YtkaiilmgemaljaaGreat

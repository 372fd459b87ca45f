/- Part of one proof. There are no conditions. -/
import Derived.Test.YtkaiilmgemaljaaGreatTZv
import Derived.Test.YtkaiilmgemaljaaGreatTN55
import Derived.Test.YtkaiilmgemaljaaGreatTU4
set_option linter.unusedVariables false
set_option linter.unusedSimpArgs false
set_option maxRecDepth 10000
namespace Go.Proofs.YtkaiilmgemaljaaGreat
open Go.RowKit Ps Ra Ex
theorem l12best_at {t:RT2} {W:World} {c h s a b:Nat} {own other:List Int} {A B:Option Addr} {n cl cb:Nat} (hc':t.c=c) (hh':t.h=h) (hs':t.s=s) (hok:t.Ok) (hI:TabI t W)
  (hp1:PosP h c own) (hp2:PosP h c other) (hs0:other.sum≠0) (hb1:1<=b) (hb2:b<=a) (ha6:a<=6) (hpl:PL t.S W A n (resultsL own a b)) (hB:SQ t.S W B h other) (hcb:h<=cb):
  Calls Tryz.prog 92 #[.pointer (some ⟨t.bt,0,none⟩),.slice A n cl,.slice B h cb] W (RetB2 t W (bestS (sq s) (sec s other) (resultsL own a b))):=by
 subst hc' hh' hs';have hv:=aw hok.v
 have hh24:t.h<=24:=by omega
 exact ic t hok (resultsL own a b) (fun q h=>(ax (by omega) hb1 hp1 q h).1) (fun q h=>gp t hok (ax (by omega) hb1 hp1 q h).1 hs0 (l12Value_all t hok hp2 (ax (by omega) hb1 hp1 q h).1)) A B n cl cb W (by rw[<- hpl.len];exact Nat.le_trans (bN (by omega) hb1 hp1 hh24) (by omega)) hI hpl hB hcb
theorem frm_lo {S:Nat->Prop} {w wr w2:World} (hb:Below w.heap.size w wr) (hf:Frm S wr w2) (hS:∀k,S k->w.heap.size<=k):Below w.heap.size w w2:=hb.trans (hf.below hb.size hS)
theorem PL.atF {S:Nat->Prop} {w w':World} {A:Option Addr} {n:Nat} {ps:List (List Int)} (h:PL S w A n ps) (hf:Frm S w w') {k:Nat} (hk:k<n):
  ∃b off B m c,A=some ⟨b,off,none⟩/\b<w'.heap.size/\w'.cell? ⟨b,off+k,none⟩=some (.slice B m c)/\SQ S w B m (ps.getD k [])/\m<=c:=by
 obtain⟨cs,⟨hl,hc⟩,ha⟩:=h
 obtain⟨b,off,hA,hlt,hs,hcell⟩:=hc (by omega)
 obtain⟨B,m,c,hu,hp,hm⟩:=ha.2 k (by omega)
 exact⟨b,off,B,m,c,hA,Nat.lt_of_lt_of_le hlt hf.size,hf.cell' (by rw[hcell k (by omega),hu]) hs,hp,hm⟩
def codeL (p c h s ra rb:Int) (own other res:List Int):Int:=if codeK p c h s ra rb own other true≠1/\posB h c res=false then 2 else codeK p c h s ra rb own other true
theorem codeK_var {p c h s ra rb:Int} {own other:List Int} {both:Bool} (H:codeK p c h s ra rb own other both≠1):isVar p c h s=true:=by
 cases hv:isVar p c h s with
 | true=>rfl
 | false=>exact absurd (codeK_1 (fN hv)) H
noncomputable def lossE (s:Nat) (own other res:List Int) (a b:Nat):Option E:=match bestS (sq s) (sec s other) (resultsL own a b),sec s other res with
 | some (_,_,x),some y=>minE (sq s) x y
 | _,_=>none
noncomputable def lossR (p c h s ra rb:Int) (own other res:List Int):Int×Int×Int:=if codeL p c h s ra rb own other res=0 then
 (if res∈resultsL own ra.toNat rb.toNat then numR (lossE s.toNat own other res ra.toNat rb.toNat) else (0,0,4)) else (0,0,codeL p c h s ra rb own other res)
theorem mem_iff_at {ps:List (List Int)} {q:List Int}:q∈ps↔∃j,j<ps.length/\ps.getD j []=q:=by
 constructor
 ·intro h
  obtain⟨j,hj,h⟩:=List.getElem_of_mem h
  exact⟨j,hj,by rw[List.getD_eq_getElem?_getD,List.getElem?_eq_getElem hj];exact h⟩
 ·rintro⟨j,hj,rfl⟩
  exact am ps [] hj
theorem found_any (Aq D:Option Addr) (n ca cd g:Nat) (q res:List Int) (w:World) (hx:SL w Aq n q) (hy:SL w D n res) (hg:w.cell? ⟨g,0,none⟩=some (.slice D n cd)) (hn:n<=2000):
  Calls Tryz.prog 96 #[.slice Aq n ca,.pointer (some ⟨g,0,none⟩)] w fun e w'=>e = .returned (.bool (decide (q=res)))/\∃m,w'=w.drewN m:=by
 have CE:=h_ (Equal_any Aq D n ca cd q res w hx hy hn);clear hx hy
 go_enter Tryz.func96,Tryz.ntmps96
 go_wp2_with (go_at_call 97;(with_reducible refine CE.out.mono ?_);rintro e w' ⟨rfl,m,rfl⟩)
 go_ret
 exact⟨rfl,m,rfl⟩
theorem jP (S:Nat->Prop) (A D:Option Addr) (n c h cd g:Nat) (ps:List (List Int)) (res:List Int) (w:World) (hp:PL S w A n ps) (hl:∀p∈ps,p.length=h) (hy:SL w D h res) (hg:w.cell? ⟨g,0,none⟩=some (.slice D h cd)) (hh:h<=2000) (hn:n<=1000000) (hc:n<=c):
  Calls Tryz.prog 177 #[.slice A n c,.func (.func 96) #[] #[.pointer (some ⟨g,0,none⟩)]] w fun e w'=>∃k:Int,e = .returned (.int .i64 k)/\-1<=k/\k<=n/\(0<=k↔res∈ps)/\∃m,w'=w.drewN m:=by
 have HP:=h_ hp;have HLN:=h_ hl;have HY:=h_ hy;have HG:=h_ hg;have HPN:=h_ hp.len;clear hp hl hy hg
 go_enter Tryz.func177,Tryz.ntmps177
 go_wp2_with (fail)
 go_loopw [8] (fun v8 wr=>∃k:Nat,k<=n/\v8 = .int .i64 k/\Hid (∀j,j<k->ps.getD j []≠res)/\Hid (∃m,wr=w.drewN m)) (fun v8 _=>n-(intOf v8).toNat)
 case atStart=>exact⟨0,by omega,rfl,fun j hj=>by omega,0,rfl⟩
 case round=>
  obtain⟨k,hk,rfl,hno,hw⟩:=hrel
  by_cases hlt:k<n
  ·have hki:(k:Int)<(n:Int):=by omega
   obtain⟨m0,hm0⟩:=hw.out
   obtain⟨bl,ol,Bq,mq,cq,rfl,hzl,hcq,hsq,hmq⟩:=HP.out.atF (w':=wr) (by rw[hm0];exact (Frm.refl S w).drewN m0) hlt
   have hmem:=am ps [] (k:=k) (by rw[HPN.out];exact hlt)
   have hmh:h=mq:=by rw[<- hsq.1.1];exact (HLN.out _ hmem).symm
   subst hmh
   have FE:=h_ (found_any Bq D h cq cd g (ps.getD k []) res wr (by rw[hm0];exact hsq.1) (by rw[hm0];exact HY.out) (by rw[hm0];exact HG.out) hh)
   clear hsq hm0
   by_cases hq:ps.getD k []=res
   ·have b0:decide (ps.getD k []=res)=true:=decide_eq_true hq
    rw[b0]at FE
    have HM:Hid (res∈ps):=by rw[<- hq];exact hmem
    clear b0 hq hmem
    go_wp2_with (go_at_call 96;(with_reducible refine FE.out.mono ?_);rintro e w' ⟨rfl,m,rfl⟩)
    go_ret
    exact⟨_,rfl,by omega,by omega,⟨fun _=>HM.out,fun _=>by omega⟩,bU hw.out⟩
   ·have b0:decide (ps.getD k []=res)=false:=decide_eq_false hq
    rw[b0]at FE
    have HN2:Hid (∀j,j<k+1->ps.getD j []≠res):=fun j hj=>by
     by_cases h:j=k
     ·rw[h];exact hq
     ·exact hno.out j (by omega)
    clear b0 hq hmem
    go_wp2_with (go_at_call 96;(with_reducible refine FE.out.mono ?_);rintro e w' ⟨rfl,m,rfl⟩)
    go_roundw
    case rel=>exact⟨k+1,by omega,by go_num,HN2.out,bU hw.out⟩
    case measure=>(simp[intOf])<;>omega
  ·have hke:k=n:=by omega
   have HM:Hid (res∉ps):=fun h=>by
    obtain⟨j,hj,he⟩:=mem_iff_at.1 h
    exact hno.out j (by rw[HPN.out]at hj;omega) he
   clear hno
   go_wp2_with (fail)
   go_ret
   exact⟨_,rfl,by omega,by omega,⟨fun h=>by omega,fun h=>absurd h HM.out⟩,hw.out⟩
theorem bp (S:Nat->Prop) (A D:Option Addr) (n c h cd g:Nat) (ps:List (List Int)) (res:List Int) (w:World) (hp:PL S w A n ps) (hl:∀p∈ps,p.length=h) (hy:SL w D h res) (hg:w.cell? ⟨g,0,none⟩=some (.slice D h cd)) (hh:h<=2000) (hn:n<=1000000) (hc:n<=c):
  Calls Tryz.prog 94 #[.slice A n c,.func (.func 96) #[] #[.pointer (some ⟨g,0,none⟩)]] w fun e w'=>e = .returned (.bool (decide (res∈ps)))/\∃m,w'=w.drewN m:=by
 have CX:=h_ (jP S A D n c h cd g ps res w hp hl hy hg hh hn hc);clear hp hl hy hg
 go_enter Tryz.func94,Tryz.ntmps94
 go_wp2_with (fail)
 refine CX.out.mono ?_
 rintro e w' ⟨k,rfl,h1,h2,h3,m,rfl⟩
 by_cases hm:res∈ps
 ·have h0:=h3.2 hm
  have HD:Hid (decide (res∈ps)=true):=decide_eq_true hm;clear h3 hm
  go_wp2_with (fail)
  go_ret
  exact⟨by rw[HD.out];simp[h0],m,rfl⟩
 ·have h0:¬0<=k:=fun h=>hm (h3.1 h)
  have HD:Hid (decide (res∈ps)=false):=decide_eq_false hm;clear h3 hm
  go_wp2_with (fail)
  go_ret
  exact⟨by rw[HD.out];simp[h0],m,rfl⟩
end Go.Proofs.YtkaiilmgemaljaaGreat

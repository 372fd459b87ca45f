/- Part of one proof. There are no conditions. -/
import Derived.Test.YtkaiilmgemaljaaGreatTZu
import Derived.Test.YtkaiilmgemaljaaGreatTZb
import Derived.Test.YtkaiilmgemaljaaGreatTZl
set_option linter.unusedVariables false
set_option linter.unusedSimpArgs false
set_option maxRecDepth 10000
/- Contract of the check of a variant and positions with tables, the program's. There are no conditions. -/
namespace Go.Proofs.YtkaiilmgemaljaaGreat
open Go.RowKit Ps
def PLx (w:World) (A:Option Addr) (n:Nat) (ps:List (List Int)):Prop:=
 ps.length=n/\(0<n->∃b off,A=some ⟨b,off,none⟩/\b<w.heap.size/\∀k,k<n->∃B m c,w.cell? ⟨b,off+k,none⟩=some (.slice B m c)/\SL w B m (ps.getD k []))
theorem PLx.below {w w':World} {A:Option Addr} {n:Nat} {ps:List (List Int)} (h:PLx w A n ps) (hb:Below w.heap.size w w'):PLx w' A n ps:=by
 refine⟨h.1,fun hn=>?_⟩
 obtain⟨b,off,hA,hlt,hc⟩:=h.2 hn
 refine⟨b,off,hA,Nat.lt_of_lt_of_le hlt hb.size,fun k hk=>?_⟩
 obtain⟨B,m,c,h1,h2⟩:=hc k hk
 exact⟨B,m,c,ag h1 hb,h2.below hb⟩
def codeT (p c h s:Int) (ps:List (List Int)):Int:=if isVar p c h s=true then (if ps.all (posB h c)=true then (if wys h.toNat c.toNat<=500 then 0 else 3) else 2) else 1
theorem fN {p c h s:Int} {ps:List (List Int)} (hv:isVar p c h s=false):codeT p c h s ps=1:=by unfold codeT;rw[hv];rfl
theorem iv {p c h s:Int} {ps:List (List Int)} {k:Nat} (hv:isVar p c h s=true) (hk:k<ps.length) (hb:posB h c (ps.getD k [])=false):codeT p c h s ps=2:=by
 unfold codeT
 have:ps.all (posB h c)=false:=by
  rw[List.all_eq_false]
  exact⟨_,am ps [] hk,by rw[hb];decide⟩
 rw[hv,this];rfl
theorem codeT_all {p c h s:Int} {ps:List (List Int)} (hv:isVar p c h s=true) (hb:∀j,j<ps.length->posB h c (ps.getD j [])=true):codeT p c h s ps=if wys h.toNat c.toNat<=500 then 0 else 3:=by
 unfold codeT
 have:ps.all (posB h c)=true:=by
  rw[List.all_eq_true]
  intro q hq
  obtain⟨k,hk,rfl⟩:=mem_getD [] hq
  exact hb k hk
 rw[hv,this];rfl
theorem codeP_no {p c h s:Int} {xs:List Int} (hv:isVar p c h s=false):codeP p c h s xs=1:=by unfold codeP;rw[hv];rfl
theorem codeP_yes {p c h s:Int} {xs:List Int} (hv:isVar p c h s=true):codeP p c h s xs=if posB h c xs=true then 0 else 2:=by unfold codeP;rw[if_pos hv]
theorem iI (p c h s:Int) (A:Option Addr) (n cp:Nat) (ps:List (List Int)) (w:World) (hx:PLx w A n ps) (hn:n<=1000):
  Calls Tryz.prog 73 #[.agg #[.int .i64 p,.int .i64 c,.int .i64 h,.int .i64 s],.slice A n cp] w fun e w'=>e = .returned (.int .i64 (codeT p c h s ps))/\Below w.heap.size w w':=by
 have HF0:=h_ ((Fr.start w).allocT (by simp) #[.int .i64 p,.int .i64 c,.int .i64 h,.int .i64 s] 25)
 have HX:=h_ hx;have HL:=h_ hx.1
 have CV:=h_ fun (W:World)=>aN p c h s W
 clear hx
 rcases hv:isVar p c h s with _|_
 ·have HR:Hid (codeT p c h s ps=1):=fN hv
  have CV':Hid (∀W:World,Calls Tryz.prog 145 #[.agg #[.int .i64 p,.int .i64 c,.int .i64 h,.int .i64 s]] W fun e w'=>e = .returned (.bool false)/\Below W.heap.size W w'):=fun W=>by
   have:=CV.out W;rw[hv]at this;exact this
  have HV:=h_ hv;clear CV hv
  go_enter Tryz.func73,Tryz.ntmps73
  go_wp2
  go_loopw [11] (fun i wr=>∃k:Nat,k=0/\i = .int .i64 k/\Hid (Fr w wr [[.int .i64 p,.int .i64 c,.int .i64 h,.int .i64 s]])) (fun i _=>n-(intOf i).toNat)
  case atStart=>exact⟨0,rfl,rfl,HF0.out⟩
  case round=>
   obtain⟨k,hk0,rfl,HF⟩:=hrel;obtain⟨z0,c00,f00,c01,f01,c02,f02,c03,f03⟩:=HF.out.xf3
   by_cases hlt:k<n
   ·have hki:(k:Int)<(n:Int):=by omega
    obtain⟨b,off,rfl,hz,hc⟩:=(HX.out.below HF.out.b).2 (by omega)
    obtain⟨B,m,cq,hcell,hsl⟩:=hc k hlt;subst hk0;have hcell0:wr.cell? ⟨b,off,none⟩=some (.slice B m cq):=hcell;have CB:=h_ (dU p c h s B m cq _ wr hsl);rw[codeP_no HV.out]at CB;clear hc hsl
    go_wp2_with (go_at_call 163;((refine (more_first CB.out).mono ?_);rintro e w' ⟨rfl,t,rfl⟩))
    go_ret
    exact⟨by rw[HR.out];rfl,blw HF.out.b (Nat.le_refl _)⟩
   ·have hk0:=h_ hk0
    go_wp2_with (go_at_call 145;((with_reducible refine (more_first (CV'.out _)).mono ?_);rintro e w' ⟨rfl,t,rfl⟩))
    go_ret
    exact⟨by rw[HR.out];rfl,blw HF.out.b (Nat.le_refl _)⟩
 ·have hp:=aw hv
  obtain⟨c',rfl⟩:∃c':Nat,c=c':=⟨c.toNat,by omega⟩
  obtain⟨h',rfl⟩:∃h':Nat,h=h':=⟨h.toNat,by omega⟩
  have CV':Hid (∀W:World,Calls Tryz.prog 145 #[.agg #[.int .i64 p,.int .i64 c',.int .i64 h',.int .i64 s]] W fun e w'=>e = .returned (.bool true)/\Below W.heap.size W w'):=fun W=>by
   have:=CV.out W;rw[hv]at this;exact this
  have CN:=h_ fun (W:World)=>cy p s c' h' W hv
  have HV:=h_ hv;clear CV hv
  go_enter Tryz.func73,Tryz.ntmps73
  go_wp2
  go_loopw [11] (fun i wr=>∃k:Nat,k<=n/\i = .int .i64 k/\Hid (∀j,j<k->posB h' c' (ps.getD j [])=true)/\Hid (Fr w wr [[.int .i64 p,.int .i64 c',.int .i64 h',.int .i64 s]])) (fun i _=>n-(intOf i).toNat)
  case atStart=>exact⟨0,by omega,rfl,fun j hj=>by omega,HF0.out⟩
  case round=>
   obtain⟨k,hk,rfl,HA,HF⟩:=hrel;obtain⟨z0,c00,f00,c01,f01,c02,f02,c03,f03⟩:=HF.out.xf3
   by_cases hlt:k<n
   ·have hki:(k:Int)<(n:Int):=by omega
    obtain⟨b,off,rfl,hz,hc⟩:=(HX.out.below HF.out.b).2 (by omega)
    obtain⟨B,m,cq,hcell,hsl⟩:=hc k hlt;have CB:=h_ (dU p c' h' s B m cq _ wr hsl);rw[codeP_yes HV.out]at CB;clear hc hsl
    rcases hb:posB h' c' (ps.getD k []) with _|_
    ·have HR:Hid (codeT p c' h' s ps=2):=iv HV.out (by rw[HL.out];exact hlt) hb
     rw[hb]at CB;clear hb
     go_wp2_with (go_at_call 163;((refine (more_first CB.out).mono ?_);rintro e w' ⟨rfl,t,rfl⟩))
     go_ret
     exact⟨by rw[HR.out];rfl,blw HF.out.b (Nat.le_refl _)⟩
    ·have HA2:Hid (∀j,j<k+1->posB h' c' (ps.getD j [])=true):=fun j hj=>by
      by_cases e:j=k
      ·rw[e];exact hb
      ·exact HA.out j (by omega)
     rw[hb]at CB;clear hb
     go_wp2_with (go_at_call 163;((refine (more_first CB.out).mono ?_);rintro e w' ⟨rfl,t,rfl⟩))
     go_roundw
     case rel=>exact⟨k+1,by omega,by go_num,HA2.out,HF.out.more t⟩
     case measure=>(simp[intOf])<;>omega
   focus
    have hkn:k=n:=by omega
    subst hkn
    have HR0:=h_ (codeT_all HV.out (by rw[HL.out];exact HA.out))
    simp only[Int.toNat_natCast]at HR0
    have hwb:=gH (k:=h') (m:=c') (by omega) (by omega)
    by_cases hm:wys h' c'<=1000000
    focus
     have HC:Hid (wysC h' c'=wys h' c'):=dh hm
     have CN':Hid (∀W:World,Calls Tryz.prog 164 #[.agg #[.int .i64 p,.int .i64 c',.int .i64 h',.int .i64 s]] W fun e w'=>e = .returned (.int .i64 (wys h' c'))/\Below W.heap.size W w'):=fun W=>by
      have:=CN.out W;rwa [HC.out]at this
     clear CN
     by_cases h5:wys h' c'<=500
     focus
      have HR:Hid (codeT p c' h' s ps=0):=by unfold Hid;rw[HR0.out,if_pos h5]
      have b1:decide ((500:Int)<(wys h' c':Int))=false:=decide_eq_false (by omega)
      refine ?za
     rotate_left
     focus
      have HR:Hid (codeT p c' h' s ps=3):=by unfold Hid;rw[HR0.out,if_neg h5]
      have b1:decide ((500:Int)<(wys h' c':Int))=true:=decide_eq_true (by omega)
      refine ?zb
    rotate_left 2
    focus
     have HC:Hid (wysC h' c' = -1):=gJ hm
     have CN':Hid (∀W:World,Calls Tryz.prog 164 #[.agg #[.int .i64 p,.int .i64 c',.int .i64 h',.int .i64 s]] W fun e w'=>e = .returned (.int .i64 (-1))/\Below W.heap.size W w'):=fun W=>by
      have:=CN.out W;rwa [HC.out]at this
     have HR:Hid (codeT p c' h' s ps=3):=by unfold Hid;rw[HR0.out,if_neg (by omega)]
     clear CN HR0
     refine ?zc
   rotate_left 3
   case' za|zb=>
    have b2:decide ((wys h' c':Int)<0)=false:=decide_eq_false (by omega)
    clear HR0
   case za|zb|zc=>
    go_wp2_with (first|(go_at_call 145;((with_reducible refine (more_first (CV'.out _)).mono ?_);rintro e w' ⟨rfl,t,rfl⟩))|(go_at_call 164;((with_reducible refine (more_call (CN'.out _)).mono ?_);rintro e w' ⟨rfl,t2,rfl⟩)))
    go_ret
    exact⟨by rw[HR.out];rfl,blw HF.out.b (Nat.le_refl _)⟩
end Go.Proofs.YtkaiilmgemaljaaGreat
/- Contract of the program's WinChance. There are no conditions. -/
namespace Go.Proofs.YtkaiilmgemaljaaGreat
open Go.RowKit Ps Ra Ex
def codeW (p c h s:Int) (own other:List Int) (both:Bool):Int:=
 if codeT p c h s [own,other]=0 then (if (own.sum=0/\other.sum=0)\/(both=true/\(own.sum=0\/other.sum=0)) then 5 else 0) else codeT p c h s [own,other]
def numR (o:Option E):Int×Int×Int:=match o with
 | none=>(0,0,3)
 | some e=>(e.num,(e.depth:Int),0)
def RetN (w:World) (r:Int×Int×Int) (e:Ending) (w':World):Prop:=e = .returned (.tuple #[.agg #[.int .i64 r.1,.int .i64 r.2.1],.int .i64 r.2.2])/\Below w.heap.size w w'
theorem RetN.mk' {w w':World} {r:Int×Int×Int} {a b c:Int} (hr:r=(a,b,c)) (hb:Below w.heap.size w w'):RetN w r (.returned (.tuple #[.agg #[.int .i64 a,.int .i64 b],.int .i64 c])) w':=by subst hr;exact⟨rfl,hb⟩
theorem de {p c h s:Int} {own other:List Int} (H:codeT p c h s [own,other]=0):isVar p c h s=true/\posB h c own=true/\posB h c other=true/\wys h.toNat c.toNat<=500:=by
 unfold codeT at H
 by_cases h1:isVar p c h s=true
 ·rw[if_pos h1]at H
  by_cases h2:([own,other]:List (List Int)).all (posB h c)=true
  ·rw[if_pos h2]at H
   by_cases h3:wys h.toNat c.toNat<=500
   ·simp at h2
    exact⟨h1,h2.1,h2.2,h3⟩
   ·rw[if_neg h3]at H;omega
  ·rw[if_neg h2]at H;omega
 ·rw[if_neg h1]at H;omega
theorem codeW_T {p c h s:Int} {own other:List Int} {both:Bool} (H:codeW p c h s own other both=0):codeT p c h s [own,other]=0:=by
 unfold codeW at H
 by_cases h0:codeT p c h s [own,other]=0
 ·exact h0
 ·rw[if_neg h0]at H;exact H
theorem plx_two {W:World} {A B:Option Addr} {n m ca cb:Nat} {own other:List Int} (hA:SL W A n own) (hB:SL W B m other) (e:TypeId):
  PLx (W.alloc (.cells #[.slice A n ca,.slice B m cb] e)) (some ⟨W.heap.size,0,none⟩) 2 [own,other]:=by
 refine⟨rfl,fun _=>⟨W.heap.size,0,rfl,by simp,fun k hk=>?_⟩⟩
 have:k=0\/k=1:=by omega
 rcases this with rfl|rfl
 ·exact⟨A,n,ca,by simp[go_sem],hA.alloc _⟩
 ·exact⟨B,m,cb,by simp[go_sem],hB.alloc _⟩
theorem SQ.of_sl {S:Nat->Prop} {w:World} {A:Option Addr} {n:Nat} {xs:List Int} (h:SL w A n xs) (hS:∀k,S k->w.heap.size<=k):SQ S w A n xs:=
 ⟨h,fun hn b off s hA hb=>by
  obtain⟨b',off',hA',hlt,_⟩:=h.2 hn;rw[hA]at hA';injection hA' with hA';injection hA' with h1 h2 h3;subst h1;have:=hS b hb
  omega⟩
end Go.Proofs.YtkaiilmgemaljaaGreat
/- Contracts of the reference's check of a race and of its WinChance. There are no conditions. -/
namespace Go.Proofs.YtkaiilmgemaljaaGreat
open Go.RowKit Ps Ra Ex
end Go.Proofs.YtkaiilmgemaljaaGreat
/- Contract of the reference's WinChance. There are no conditions. -/
namespace Go.Proofs.YtkaiilmgemaljaaGreat
open Go.RowKit Ps Ra Ex
theorem gn (t:RT2) (ht:t.Ok):∀(f:Nat) {own other:List Int},PosP t.h t.c own->PosP t.h t.c other->pips own+pips other<f->ValC t own other
 | 0,own,other,hq,hq2,h=>by have:=aB hq.2.1;have:=aB hq2.2.1;omega
 | f+1,own,other,hq,hq2,h=>jD t ht hq hq2 fun _ q hp hlt=>gn t ht f hq2 hp (by omega)
theorem l12Value_all (t:RT2) (ht:t.Ok) {own other:List Int} (hq:PosP t.h t.c own) (hq2:PosP t.h t.c other):ValC t own other:=by
 have h1:=aB hq.2.1;have h2:=aB hq2.2.1
 exact gn t ht ((pips own+pips other).toNat+1) hq hq2 (by omega)
end Go.Proofs.YtkaiilmgemaljaaGreat
/- The statement FnExactWinChance, the law's walk. There are no conditions. -/
namespace Go.Proofs.YtkaiilmgemaljaaGreat
open Go.RowKit Ps Ra Ex
end Go.Proofs.YtkaiilmgemaljaaGreat

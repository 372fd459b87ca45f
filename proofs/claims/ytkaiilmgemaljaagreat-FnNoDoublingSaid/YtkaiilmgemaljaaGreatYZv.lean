/- Part of one proof. There are no conditions. -/
import Derived.Test.YtkaiilmgemaljaaGreatYZu
import Derived.Test.YtkaiilmgemaljaaGreatYZb
import Derived.Test.YtkaiilmgemaljaaGreatYD2
set_option maxHeartbeats 0
set_option linter.unusedVariables false
set_option linter.unusedSimpArgs false
set_option maxRecDepth 100000
/- Contract of the check of a variant and positions with tables, the program's. There are no conditions. -/
namespace Go.Proofs.YtkaiilmgemaljaaGreat
open Go.RowKit Ps
def PLx (w:World) (A:Option Addr) (n:Nat) (ps:List (List Int)):Prop:=
 ps.length=n/\(0<n->∃b off,A=some ⟨b,off,none⟩/\b<w.heap.size/\∀k,k<n->∃B m c,w.cell? ⟨b,off+k,none⟩=some (.slice B m c)/\SL w B m (ps.getD k []))
theorem PLx.below {w w':World} {A:Option Addr} {n:Nat} {ps:List (List Int)} (h:PLx w A n ps) (hb:Below w.heap.size w w'):PLx w' A n ps:=by
 refine⟨h.1,fun hn=>?_⟩
 obtain⟨b,off,hA,hlt,hc⟩:=h.2 hn
 refine⟨b,off,hA,Nat.lt_of_lt_of_le hlt hb.size,fun k hk=>?_⟩
 obtain⟨B,m,c,h1,h2⟩:=hc k hk
 exact⟨B,m,c,ab h1 hb,h2.below hb⟩
def codeT (p c h s:Int) (ps:List (List Int)):Int:=if isVar p c h s=true then (if ps.all (posB h c)=true then (if wys h.toNat c.toNat<=500 then 0 else 3) else 2) else 1
theorem codeT_var {p c h s:Int} {ps:List (List Int)} (hv:isVar p c h s=false):codeT p c h s ps=1:=by unfold codeT;rw[hv];rfl
theorem jj {p c h s:Int} {ps:List (List Int)} {k:Nat} (hv:isVar p c h s=true) (hk:k<ps.length) (hb:posB h c (ps.getD k [])=false):codeT p c h s ps=2:=by
 unfold codeT
 have:ps.all (posB h c)=false:=by
  rw[List.all_eq_false]
  exact⟨_,ar ps [] hk,by rw[hb];decide⟩
 rw[hv,this];rfl
theorem codeT_all {p c h s:Int} {ps:List (List Int)} (hv:isVar p c h s=true) (hb:∀j,j<ps.length->posB h c (ps.getD j [])=true):codeT p c h s ps=if wys h.toNat c.toNat<=500 then 0 else 3:=by
 unfold codeT
 have:ps.all (posB h c)=true:=by
  rw[List.all_eq_true]
  intro q hq
  obtain⟨k,hk,rfl⟩:=mem_getD [] hq
  exact hb k hk
 rw[hv,this];rfl
theorem codeP_no {p c h s:Int} {xs:List Int} (hv:isVar p c h s=false):codeP p c h s xs=1:=by unfold codeP;rw[hv];rfl
theorem codeP_yes {p c h s:Int} {xs:List Int} (hv:isVar p c h s=true):codeP p c h s xs=if posB h c xs=true then 0 else 2:=by unfold codeP;rw[if_pos hv]
theorem jv (p c h s:Int) (A:Option Addr) (n cp:Nat) (ps:List (List Int)) (w:World) (hx:PLx w A n ps) (hn:n<=1000):
  Calls Tryz.prog 73 #[.agg #[.int .i64 p,.int .i64 c,.int .i64 h,.int .i64 s],.slice A n cp] w fun e w'=>e = .returned (.int .i64 (codeT p c h s ps))/\Below w.heap.size w w':=by
 have HF0:=h_ ((Fr.start w).allocT (by simp) #[.int .i64 p,.int .i64 c,.int .i64 h,.int .i64 s] 25)
 have HX:=h_ hx;have HL:=h_ hx.1
 have CV:=h_ fun (W:World)=>aW p c h s W
 clear hx
 rcases hv:isVar p c h s with _|_
 ·have HR:Hid (codeT p c h s ps=1):=codeT_var hv
  have CV':Hid (∀W:World,Calls Tryz.prog 145 #[.agg #[.int .i64 p,.int .i64 c,.int .i64 h,.int .i64 s]] W fun e w'=>e = .returned (.bool false)/\Below W.heap.size W w'):=fun W=>by
   have:=CV.out W;rw[hv]at this;exact this
  have HV:=h_ hv;clear CV hv
  go_enter Tryz.func73,Tryz.ntmps73
  go_wp2
  go_loopw [11] (fun i wr=>∃k:Nat,k=0/\i = .int .i64 k/\Hid (Fr w wr [[.int .i64 p,.int .i64 c,.int .i64 h,.int .i64 s]])) (fun i _=>n-(intOf i).toNat)
  case atStart=>exact⟨0,rfl,rfl,HF0.out⟩
  case round=>
   obtain⟨k,hk0,rfl,HF⟩:=hrel;obtain⟨z0,c00,f00,c01,f01,c02,f02,c03,f03⟩:=HF.out.xf2
   by_cases hlt:k<n
   ·have hki:(k:Int)<(n:Int):=by omega
    obtain⟨b,off,rfl,hz,hc⟩:=(HX.out.below HF.out.b).2 (by omega)
    obtain⟨B,m,cq,hcell,hsl⟩:=hc k hlt;subst hk0;have hcell0:wr.cell? ⟨b,off,none⟩=some (.slice B m cq):=hcell;have CB:=h_ (er p c h s B m cq _ wr hsl);rw[codeP_no HV.out]at CB;clear hc hsl
    go_wp2_with (go_at_call 163;((refine (more_first CB.out).mono ?_);rintro e w' ⟨rfl,t,rfl⟩))
    go_ret
    exact⟨by rw[HR.out];rfl,blw HF.out.b (Nat.le_refl _)⟩
   ·have hk0:=h_ hk0
    go_wp2_with (go_at_call 145;((with_reducible refine (more_first (CV'.out _)).mono ?_);rintro e w' ⟨rfl,t,rfl⟩))
    go_ret
    exact⟨by rw[HR.out];rfl,blw HF.out.b (Nat.le_refl _)⟩
 ·have hp:=ak hv
  obtain⟨c',rfl⟩:∃c':Nat,c=c':=⟨c.toNat,by omega⟩
  obtain⟨h',rfl⟩:∃h':Nat,h=h':=⟨h.toNat,by omega⟩
  have CV':Hid (∀W:World,Calls Tryz.prog 145 #[.agg #[.int .i64 p,.int .i64 c',.int .i64 h',.int .i64 s]] W fun e w'=>e = .returned (.bool true)/\Below W.heap.size W w'):=fun W=>by
   have:=CV.out W;rw[hv]at this;exact this
  have CN:=h_ fun (W:World)=>cg p s c' h' W hv
  have HV:=h_ hv;clear CV hv
  go_enter Tryz.func73,Tryz.ntmps73
  go_wp2
  go_loopw [11] (fun i wr=>∃k:Nat,k<=n/\i = .int .i64 k/\Hid (∀j,j<k->posB h' c' (ps.getD j [])=true)/\Hid (Fr w wr [[.int .i64 p,.int .i64 c',.int .i64 h',.int .i64 s]])) (fun i _=>n-(intOf i).toNat)
  case atStart=>exact⟨0,by omega,rfl,fun j hj=>by omega,HF0.out⟩
  case round=>
   obtain⟨k,hk,rfl,HA,HF⟩:=hrel;obtain⟨z0,c00,f00,c01,f01,c02,f02,c03,f03⟩:=HF.out.xf2
   by_cases hlt:k<n
   ·have hki:(k:Int)<(n:Int):=by omega
    obtain⟨b,off,rfl,hz,hc⟩:=(HX.out.below HF.out.b).2 (by omega)
    obtain⟨B,m,cq,hcell,hsl⟩:=hc k hlt;have CB:=h_ (er p c' h' s B m cq _ wr hsl);rw[codeP_yes HV.out]at CB;clear hc hsl
    rcases hb:posB h' c' (ps.getD k []) with _|_
    ·have HR:Hid (codeT p c' h' s ps=2):=jj HV.out (by rw[HL.out];exact hlt) hb
     rw[hb]at CB;clear hb
     go_wp2_with (go_at_call 163;((refine (more_first CB.out).mono ?_);rintro e w' ⟨rfl,t,rfl⟩))
     go_ret
     exact⟨by rw[HR.out];rfl,blw HF.out.b (Nat.le_refl _)⟩
    ·have HA2:Hid (∀j,j<k+1->posB h' c' (ps.getD j [])=true):=fun j hj=>by
      by_cases e:j=k
      ·rw[e];exact hb
      ·exact HA.out j (by omega)
     rw[hb]at CB;clear hb
     go_wp2_with (go_at_call 163;((refine (more_first CB.out).mono ?_);rintro e w' ⟨rfl,t,rfl⟩))
     go_roundw
     case rel=>exact⟨k+1,by omega,by go_num,HA2.out,HF.out.more t⟩
     case measure=>(simp[intOf])<;>omega
   focus
    have hkn:k=n:=by omega
    subst hkn
    have HR0:=h_ (codeT_all HV.out (by rw[HL.out];exact HA.out))
    simp only[Int.toNat_natCast]at HR0
    have hwb:=iI (k:=h') (m:=c') (by omega) (by omega)
    by_cases hm:wys h' c'<=1000000
    focus
     have HC:Hid (wysC h' c'=wys h' c'):=bW hm
     have CN':Hid (∀W:World,Calls Tryz.prog 164 #[.agg #[.int .i64 p,.int .i64 c',.int .i64 h',.int .i64 s]] W fun e w'=>e = .returned (.int .i64 (wys h' c'))/\Below W.heap.size W w'):=fun W=>by
      have:=CN.out W;rwa [HC.out]at this
     clear CN
     by_cases h5:wys h' c'<=500
     focus
      have HR:Hid (codeT p c' h' s ps=0):=by unfold Hid;rw[HR0.out,if_pos h5]
      have b1:decide ((500:Int)<(wys h' c':Int))=false:=decide_eq_false (by omega)
      refine ?za
     rotate_left
     focus
      have HR:Hid (codeT p c' h' s ps=3):=by unfold Hid;rw[HR0.out,if_neg h5]
      have b1:decide ((500:Int)<(wys h' c':Int))=true:=decide_eq_true (by omega)
      refine ?zb
    rotate_left 2
    focus
     have HC:Hid (wysC h' c' = -1):=et hm
     have CN':Hid (∀W:World,Calls Tryz.prog 164 #[.agg #[.int .i64 p,.int .i64 c',.int .i64 h',.int .i64 s]] W fun e w'=>e = .returned (.int .i64 (-1))/\Below W.heap.size W w'):=fun W=>by
      have:=CN.out W;rwa [HC.out]at this
     have HR:Hid (codeT p c' h' s ps=3):=by unfold Hid;rw[HR0.out,if_neg (by omega)]
     clear CN HR0
     refine ?zc
   rotate_left 3
   case' za|zb=>
    have b2:decide ((wys h' c':Int)<0)=false:=decide_eq_false (by omega)
    clear HR0
   case za|zb|zc=>
    go_wp2_with (first|(go_at_call 145;((with_reducible refine (more_first (CV'.out _)).mono ?_);rintro e w' ⟨rfl,t,rfl⟩))|(go_at_call 164;((with_reducible refine (more_call (CN'.out _)).mono ?_);rintro e w' ⟨rfl,t2,rfl⟩)))
    go_ret
    exact⟨by rw[HR.out];rfl,blw HF.out.b (Nat.le_refl _)⟩
end Go.Proofs.YtkaiilmgemaljaaGreat
/- Contract of the program's WinChance. There are no conditions. -/
namespace Go.Proofs.YtkaiilmgemaljaaGreat
open Go.RowKit Ps Ra Ex
def codeW (p c h s:Int) (own other:List Int) (both:Bool):Int:=
 if codeT p c h s [own,other]=0 then (if (own.sum=0/\other.sum=0)\/(both=true/\(own.sum=0\/other.sum=0)) then 5 else 0) else codeT p c h s [own,other]
def numR (o:Option E):Int×Int×Int:=match o with
 | none=>(0,0,3)
 | some e=>(e.num,(e.depth:Int),0)
noncomputable def winR (p c h s:Int) (own other:List Int):Int×Int×Int:=if codeW p c h s own other false=0 then numR (win s.toNat own other) else (0,0,codeW p c h s own other false)
def RetN (w:World) (r:Int×Int×Int) (e:Ending) (w':World):Prop:=e = .returned (.tuple #[.agg #[.int .i64 r.1,.int .i64 r.2.1],.int .i64 r.2.2])/\Below w.heap.size w w'
theorem RetN.mk' {w w':World} {r:Int×Int×Int} {a b c:Int} (hr:r=(a,b,c)) (hb:Below w.heap.size w w'):RetN w r (.returned (.tuple #[.agg #[.int .i64 a,.int .i64 b],.int .i64 c])) w':=by subst hr;exact⟨rfl,hb⟩
theorem gw {p c h s:Int} {own other:List Int} (H:codeT p c h s [own,other]=0):isVar p c h s=true/\posB h c own=true/\posB h c other=true/\wys h.toNat c.toNat<=500:=by
 unfold codeT at H
 by_cases h1:isVar p c h s=true
 ·rw[if_pos h1]at H
  by_cases h2:([own,other]:List (List Int)).all (posB h c)=true
  ·rw[if_pos h2]at H
   by_cases h3:wys h.toNat c.toNat<=500
   ·simp at h2
    exact⟨h1,h2.1,h2.2,h3⟩
   ·rw[if_neg h3]at H;omega
  ·rw[if_neg h2]at H;omega
 ·rw[if_neg h1]at H;omega
theorem codeW_T {p c h s:Int} {own other:List Int} {both:Bool} (H:codeW p c h s own other both=0):codeT p c h s [own,other]=0:=by
 unfold codeW at H
 by_cases h0:codeT p c h s [own,other]=0
 ·exact h0
 ·rw[if_neg h0]at H;exact H
theorem plx_two {W:World} {A B:Option Addr} {n m ca cb:Nat} {own other:List Int} (hA:SL W A n own) (hB:SL W B m other) (e:TypeId):
  PLx (W.alloc (.cells #[.slice A n ca,.slice B m cb] e)) (some ⟨W.heap.size,0,none⟩) 2 [own,other]:=by
 refine⟨rfl,fun _=>⟨W.heap.size,0,rfl,by simp,fun k hk=>?_⟩⟩
 have:k=0\/k=1:=by omega
 rcases this with rfl|rfl
 ·exact⟨A,n,ca,by simp[go_sem],hA.alloc _⟩
 ·exact⟨B,m,cb,by simp[go_sem],hB.alloc _⟩
theorem SQ.of_sl {S:Nat->Prop} {w:World} {A:Option Addr} {n:Nat} {xs:List Int} (h:SL w A n xs) (hS:∀k,S k->w.heap.size<=k):SQ S w A n xs:=
 ⟨h,fun hn b off s hA hb=>by
  obtain⟨b',off',hA',hlt,_⟩:=h.2 hn;rw[hA]at hA';injection hA' with hA';injection hA' with h1 h2 h3;subst h1;have:=hS b hb
  omega⟩
theorem win_new {t:RT} {w1 w2:World} {p:Int} {c h s n:Nat} {own other:List Int} {A B:Option Addr} {ca cb:Nat} (hc':t.c=c) (hh':t.h=h) (hs':t.s=s) (hok:t.Ok) (hI:RaceI t t.S w2) (hlow:∀k,t.S k->w1.heap.size<=k) (hb:Below w1.heap.size w1 w2)
  (hp1:PosP h c own) (hp2:PosP h c other) (hA:SL w1 A h own) (hB:SL w1 B h other) (hca:h<=ca) (hcb:h<=cb):
  Calls Tryz.prog 84 #[.pointer (some ⟨t.bt,0,none⟩),.slice A h ca,.slice B h cb] w2 fun e w'=>e = .returned (.tuple #[exV (win s own other),.bool (win s own other).isSome])/\Frm t.S w2 w':=by
 subst hc' hh' hs'
 exact (win_all t hok hp1 hp2 t.S A B ca cb w2 (fun k hk h=>by have:=hI.ltS k h;omega) hI ((SQ.of_sl hA hlow).below hb) hca ((SQ.of_sl hB hlow).below hb) hcb).mono fun e w' ⟨h1,_,h3⟩=>⟨h1,h3⟩
theorem gC (p c h s:Int) (A B:Option Addr) (n m ca cb:Nat) (own other:List Int) (w:World) (hA:SL w A n own) (hB:SL w B m other) (hca:n<=ca) (hcb:m<=cb):
  Calls Tryz.prog 21 #[.agg #[.int .i64 p,.int .i64 c,.int .i64 h,.int .i64 s],.slice A n ca,.slice B m cb] w (RetN w (winR p c h s own other)):=by
 have HF0:Hid (Fr w ((w.alloc (.cells #[.int .i64 p,.int .i64 c,.int .i64 h,.int .i64 s] 25)).alloc (.cells #[.int .i64 0,.int .i64 0] 35)) [[.int .i64 p,.int .i64 c,.int .i64 h,.int .i64 s],[.int .i64 0,.int .i64 0]]):=((Fr.start w).allocT (by simp) _ _).allocT (by simp) _ _
 have HA0:=h_ (hA.below HF0.out.b);have HB0:=h_ (hB.below HF0.out.b);have HAL:=h_ hA.1;have HBL:=h_ hB.1
 have CT:=h_ (jv p c h s (some ⟨w.heap.size+1+1,0,none⟩) 2 2 [own,other] _ (by have:=plx_two (ca:=ca) (cb:=cb) HA0.out HB0.out 26;simpa using this) (by omega))
 have HF1:=h_ (HF0.out.alloc (.cells #[.slice A n ca,.slice B m cb] 26));have HA1:=h_ (HA0.out.alloc (.cells #[.slice A n ca,.slice B m cb] 26));have HB1:=h_ (HB0.out.alloc (.cells #[.slice A n ca,.slice B m cb] 26));clear hA hB HF0 HA0 HB0
 by_cases hct:codeT p c h s [own,other]=0
 focus
  obtain⟨hv,hp1,hp2,hN⟩:=gw hct
  have hvv:=ak hv
  obtain⟨c',rfl⟩:∃c':Nat,c=c':=⟨c.toNat,by omega⟩
  obtain⟨h',rfl⟩:∃h':Nat,h=h':=⟨h.toNat,by omega⟩
  obtain⟨s',rfl⟩:∃s':Nat,s=s':=⟨s.toNat,by omega⟩
  have HP1:=h_ (bz hp1);have HP2:=h_ (bz hp2)
  simp only[Int.toNat_natCast]at hN
  have hnh:h'=n:=by rw[<- HAL.out];exact (HP1.out.1).symm
  have hmh:h'=m:=by rw[<- HBL.out];exact (HP2.out.1).symm
  subst hnh;subst hmh
  have CT':Hid (Calls Tryz.prog 73 #[.agg #[.int .i64 p,.int .i64 c',.int .i64 h',.int .i64 s'],.slice (some ⟨w.heap.size+1+1,0,none⟩) 2 2] (((w.alloc (.cells #[.int .i64 p,.int .i64 c',.int .i64 h',.int .i64 s'] 25)).alloc (.cells #[.int .i64 0,.int .i64 0] 35)).alloc (.cells #[.slice A h' ca,.slice B h' cb] 26)) fun e w'=>e = .returned (.int .i64 0)/\Below (((w.alloc (.cells #[.int .i64 p,.int .i64 c',.int .i64 h',.int .i64 s'] 25)).alloc (.cells #[.int .i64 0,.int .i64 0] 35)).alloc (.cells #[.slice A h' ca,.slice B h' cb] 26)).heap.size (((w.alloc (.cells #[.int .i64 p,.int .i64 c',.int .i64 h',.int .i64 s'] 25)).alloc (.cells #[.int .i64 0,.int .i64 0] 35)).alloc (.cells #[.slice A h' ca,.slice B h' cb] 26)) w'):=by
   have:=CT.out;rwa [hct]at this
  have TOA:=h_ fun (W:World) (hx:SL W A h' own)=>bO A h' ca own W hx HP1.out.2.1 (by have:=HP1.out.2.2;omega) (by omega)
  have TOB:=h_ fun (W:World) (hx:SL W B h' other)=>bO B h' cb other W hx HP2.out.2.1 (by have:=HP2.out.2.2;omega) (by omega)
  have CNEW:=h_ fun (W:World)=>newRace_any p c' h' s' W hv hN
  have HW0:Hid (winR p c' h' s' own other=if own.sum=0/\other.sum=0 then (0,0,5) else numR (win s' own other)):=by
   unfold Hid winR codeW;rw[hct]
   simp only[if_true,Bool.false_eq_true,false_and,or_false,Int.toNat_natCast]
   split<;>rfl
  clear CT hct hv hp1 hp2 hN hvv
  go_enter Tryz.func21,Tryz.ntmps21
  go_wp2_with (fail)
  refine CT'.out.mono ?_
  rintro e w1 ⟨rfl,hb1⟩
  have HF2:=h_ (HF1.out.below hb1);have HA2:=h_ (HA1.out.below hb1);have HB2:=h_ (HB1.out.below hb1);clear CT' hb1 HF1 HA1 HB1
  by_cases hz1:own.sum=0
  focus
   have b1:(own.sum == 0)=true:=by simp[hz1]
   by_cases hz2:other.sum=0
   ·have b2:(other.sum == 0)=true:=by simp[hz2]
    have HWR:Hid (winR p c' h' s' own other=(0,0,5)):=by unfold Hid;rw[HW0.out,if_pos ⟨hz1,hz2⟩]
    clear hz1 hz2 HW0;obtain⟨z0,c00,f00,c01,f01,c02,f02,c03,f03,z1,c10,f10,c11,f11⟩:=HF2.out.xf0
    go_wp2_with (first|(go_at_call_of 74 A;refine (TOA.out _ HA2.out).mono ?_;rintro e w' ⟨rfl,rfl⟩)|(go_at_call_of 74 B;refine (TOB.out _ HB2.out).mono ?_;rintro e w' ⟨rfl,rfl⟩))
    refine bodyPost_ret (v:=.tuple #[.agg #[.int .i64 0,.int .i64 0],.int .i64 5]) (by simp[results,Tryz.results21,go_sem,c10,c11,z1,f10,f11]) rfl (RetN.mk' HWR.out ?_)
    repeat (first|exact HF2.out.b|refine stw ?_ (by omega)|refine alw ?_ (by omega))
   focus
    have b2:(other.sum == 0)=false:=by simp[hz2]
    have HW1:Hid (winR p c' h' s' own other=numR (win s' own other)):=by unfold Hid;rw[HW0.out,if_neg fun h=>hz2 h.2]
    clear hz1 hz2 HW0;obtain⟨z0,c00,f00,c01,f01,c02,f02,c03,f03,z1,c10,f10,c11,f11⟩:=HF2.out.xf0
    go_wp2_with (first|(go_at_call_of 74 A;refine (TOA.out _ HA2.out).mono ?_;rintro e w' ⟨rfl,rfl⟩)|(go_at_call_of 74 B;refine (TOB.out _ HB2.out).mono ?_;rintro e w' ⟨rfl,rfl⟩))
    refine (CNEW.out _).mono ?_
    refine ?za
  rotate_left
  focus
   have b1:(own.sum == 0)=false:=by simp[hz1]
   have HW1:Hid (winR p c' h' s' own other=numR (win s' own other)):=by unfold Hid;rw[HW0.out,if_neg fun h=>hz1 h.1]
   clear hz1 HW0;obtain⟨z0,c00,f00,c01,f01,c02,f02,c03,f03,z1,c10,f10,c11,f11⟩:=HF2.out.xf0
   go_wp2_with (go_at_call_of 74 A;refine (TOA.out _ HA2.out).mono ?_;rintro e w' ⟨rfl,rfl⟩)
   refine (CNEW.out _).mono ?_
   refine ?zb
 rotate_left 2
 ·have HWR:Hid (winR p c h s own other=(0,0,codeT p c h s [own,other])):=by
   unfold Hid winR codeW;rw[if_neg hct,if_neg hct]
  generalize codeT p c h s [own,other]=k at *
  have b0:(k != 0)=true:=by simp[hct]
  clear hct
  go_enter Tryz.func21,Tryz.ntmps21
  go_wp2_with (fail)
  refine CT.out.mono ?_
  rintro e w1 ⟨rfl,hb1⟩
  have HF2:=h_ (HF1.out.below hb1);clear CT hb1 HF1 HA1 HB1;obtain⟨z0,c00,f00,c01,f01,c02,f02,c03,f03,z1,c10,f10,c11,f11⟩:=HF2.out.xf0
  go_wp2_with (fail)
  refine bodyPost_ret (v:=.tuple #[.agg #[.int .i64 0,.int .i64 0],.int .i64 k]) (by simp[results,Tryz.results21,go_sem,c10,c11,z1,f10,f11]) rfl (RetN.mk' HWR.out ?_)
  repeat (first|exact HF2.out.b|refine stw ?_ (by omega)|refine alw ?_ (by omega))
 case za|zb=>
  rintro e w2 ⟨t,_,hc',hh',hs',rfl,hok,hI,hlow,hbt,hb2⟩
  have CWIN:=h_ (win_new (p:=p) (n:=0) hc' hh' hs' hok hI hlow hb2 HP1.out HP2.out HA2.out HB2.out hca hcb);have HLOW:=h_ hlow;have HF3:=h_ (HF2.out.below hb2)
  have hz1:w.heap.size+2<=w1.heap.size:=by have:=HF2.out.z;simpa using this
  clear hc' hh' hs' hok hI hlow hbt hb2 HA2 HB2 CNEW;clear z0 c00 f00 c01 f01 c02 f02 c03 f03 z1 c10 f10 c11 f11
  go_wp2_with (fail)
  refine CWIN.out.mono ?_
  rintro e w3 ⟨rfl,hf3⟩
  have HF4:Hid (Fr w w3 [[.int .i64 p,.int .i64 c',.int .i64 h',.int .i64 s'],[.int .i64 0,.int .i64 0]]):=HF3.out.frm hf3 (fun k hk=>by have:=HLOW.out k hk;omega) (fun k hk=>by have:=HLOW.out k hk;simp;omega)
  clear hf3 HF3 HF2 CWIN HLOW
  rcases hwo:win s' own other with _|⟨m,d⟩
  ·have HWR:Hid (winR p c' h' s' own other=(0,0,3)):=by rw[HW1.out,hwo];rfl
   unfold exV
   simp only[Option.getD_none,Option.isSome_none]
   clear hwo;obtain⟨z0,c00,f00,c01,f01,c02,f02,c03,f03,z1,c10,f10,c11,f11⟩:=HF4.out.xf0
   go_wp2_with (fail)
   refine bodyPost_ret (v:=.tuple #[.agg #[.int .i64 0,.int .i64 0],.int .i64 3]) (by simp[results,Tryz.results21,go_sem,c10,c11,z1,f10,f11]) rfl (RetN.mk' HWR.out ?_)
   repeat (first|exact HF4.out.b|refine stw ?_ (by omega)|refine alw ?_ (by omega))
  ·have HWR:Hid (winR p c' h' s' own other=(m,(d:Int),0)):=by rw[HW1.out,hwo];rfl
   unfold exV
   simp only[Option.getD_some,Option.isSome_some]
   clear hwo;obtain⟨z0,c00,f00,c01,f01,c02,f02,c03,f03,z1,c10,f10,c11,f11⟩:=HF4.out.xf0
   go_wp2_with (fail)
   refine bodyPost_ret (v:=.tuple #[.agg #[.int .i64 m,.int .i64 (d:Int)],.int .i64 0]) (by simp[results,Tryz.results21,go_sem,c10,c11,z1,f10,f11]) rfl (RetN.mk' HWR.out ?_)
   repeat (first|exact HF4.out.b|refine stw ?_ (by omega)|refine alw ?_ (by omega))
end Go.Proofs.YtkaiilmgemaljaaGreat
/- Contracts of the reference's check of a race and of its WinChance. There are no conditions. -/
namespace Go.Proofs.YtkaiilmgemaljaaGreat
open Go.RowKit Ps Ra Ex
theorem l12Code_no (p c h s ra rb:Int) (A B:Option Addr) (n m ca cb:Nat) (own other:List Int) (both:Bool) (w:World) (hA:SL w A n own) (hB:SL w B m other):
  Calls Tryz.prog 77 #[.agg #[.int .i64 p,.int .i64 c,.int .i64 h,.int .i64 s],.slice A n ca,.slice B m cb,.agg #[.int .i64 ra,.int .i64 rb],.bool false,.bool both] w fun e w'=>e = .returned (.int .i64 (codeW p c h s own other both))/\Below w.heap.size w w':=by
 have HB:Hid (Below w.heap.size w ((w.alloc (.cells #[.int .i64 p,.int .i64 c,.int .i64 h,.int .i64 s] 25)).alloc (.cells #[.int .i64 ra,.int .i64 rb] 39))):=((Below.refl _ _).alloc (Nat.le_refl _) _).alloc (by simp) _
 have HX:=h_ (hA.below HB.out);have HY:=h_ (hB.below HB.out)
 have CV:=h_ fun (W:World)=>aJ p c h s W
 clear hA hB
 rcases hv:isVar p c h s with _|_
 focus
  have HR:Hid (codeW p c h s own other both=1):=by
   have:codeT p c h s [own,other]=1:=codeT_var hv
   unfold Hid codeW;rw[this];rfl
  have CV':Hid (∀W:World,Calls Tryz.prog 80 #[.agg #[.int .i64 p,.int .i64 c,.int .i64 h,.int .i64 s]] W fun e w'=>e = .returned (.bool false)/\Below W.heap.size W w'):=fun W=>by
   have:=CV.out W;rw[hv]at this;exact this
  clear CV hv
  go_enter Tryz.func77,Tryz.ntmps77
  go_wp2_with (go_at_call 80;(with_reducible refine (more_first (CV'.out _)).mono ?_);rintro e w' ⟨rfl,t,rfl⟩)
  go_ret
  refine ?zc
 rotate_left
 focus
  have hp:=ak hv
  obtain⟨c',rfl⟩:∃c':Nat,c=c':=⟨c.toNat,by omega⟩
  obtain⟨h',rfl⟩:∃h':Nat,h=h':=⟨h.toNat,by omega⟩
  have CV':Hid (∀W:World,Calls Tryz.prog 80 #[.agg #[.int .i64 p,.int .i64 c',.int .i64 h',.int .i64 s]] W fun e w'=>e = .returned (.bool true)/\Below W.heap.size W w'):=fun W=>by
   have:=CV.out W;rw[hv]at this;exact this
  have CVA:=h_ fun (W:World) (hx:SL W A n own)=>eG p c' h' s A n ca own W hx (by omega) (by omega) (by omega)
  have CVB:=h_ fun (W:World) (hx:SL W B m other)=>eG p c' h' s B m cb other W hx (by omega) (by omega) (by omega)
  have CN0:=h_ fun (W:World)=>bB p s c' h' W hv
  rcases h1:posB h' c' own with _|_
  focus
   have HR:Hid (codeW p c' h' s own other both=2):=by
    have:codeT p c' h' s [own,other]=2:=jj (k:=0) hv (by simp) h1
    unfold Hid codeW;rw[this];rfl
   rw[h1]at CVA;clear CV hv hp CN0 CVB
   go_enter Tryz.func77,Tryz.ntmps77
   go_wp2_with (first
    | (go_at_call 80;(with_reducible refine (more_first (CV'.out _)).mono ?_);rintro e w' ⟨rfl,t,rfl⟩)
    | (go_at_call 115;(refine (more_call (CVA.out _ (HX.out.more _))).mono ?_);rintro e w' ⟨rfl,ta,rfl⟩))
   go_ret
   refine ?zd
  rotate_left
  focus
   rcases h2:posB h' c' other with _|_
   focus
    have HR:Hid (codeW p c' h' s own other both=2):=by
     have:codeT p c' h' s [own,other]=2:=jj (k:=1) hv (by simp) h2
     unfold Hid codeW;rw[this];rfl
    rw[h1]at CVA;rw[h2]at CVB;clear CV hv hp CN0
    go_enter Tryz.func77,Tryz.ntmps77
    go_wp2_with (first
     | (go_at_call 80;(with_reducible refine (more_first (CV'.out _)).mono ?_);rintro e w' ⟨rfl,t,rfl⟩)
     | (go_at_call_of 115 A;(refine (more_call (CVA.out _ (HX.out.more _))).mono ?_);rintro e w' ⟨rfl,ta,rfl⟩)
     | (go_at_call_of 115 B;(refine (more_call (CVB.out _ (HY.out.more _))).mono ?_);rintro e w' ⟨rfl,tb,rfl⟩))
    go_ret
    refine ?ze
   rotate_left
   focus
    have hT:codeT p c' h' s [own,other]=if wys h' c'<=500 then 0 else 3:=by
     have:=codeT_all (ps:=[own,other]) hv (fun j hj=>by
      have:j=0\/j=1:=by simp at hj;omega
      rcases this with rfl|rfl
      ·exact h1
      ·exact h2)
     simpa using this
    rw[h1]at CVA;rw[h2]at CVB;have HP1:=h_ (bz h1);have HP2:=h_ (bz h2)
    have hwb:=iI (k:=h') (m:=c') (by omega) (by omega)
    have HN1:Hid (n<=24):=by have:=HX.out.1;have:=HP1.out.1;unfold Hid;omega
    have HN2:Hid (m<=24):=by have:=HY.out.1;have:=HP2.out.1;unfold Hid;omega
    have SUA:=h_ fun (W:World) (hx:SL W A n own)=>cA A n ca own W hx HP1.out.2.1 (by have:=HP1.out.2.2;omega) (by have:=HN1.out;omega)
    have SUB:=h_ fun (W:World) (hx:SL W B m other)=>cA B m cb other W hx HP2.out.2.1 (by have:=HP2.out.2.2;omega) (by have:=HN2.out;omega)
    by_cases h5:wys h' c'<=500
    ·rw[if_pos h5]at hT
     have CN:Hid (∀W:World,Calls Tryz.prog 140 #[.agg #[.int .i64 p,.int .i64 c',.int .i64 h',.int .i64 s]] W fun e w'=>e = .returned (.int .i64 (wys h' c'))/\Below W.heap.size W w'):=fun W=>by
      have:=CN0.out W;rwa [bW (by omega)]at this
     have bi:inB (wys h' c':Int) 0 500=true:=bg (by omega)
     have HR0:Hid (codeW p c' h' s own other both=if (own.sum=0/\other.sum=0)\/(both=true/\(own.sum=0\/other.sum=0)) then 5 else 0):=by
      unfold Hid codeW;rw[if_pos hT]
     clear CV hv hp CN0 h1 h2 hT hwb
     have HRB:Hid (codeW p c' h' s own other both=if (((own.sum == 0)&&(other.sum == 0))||(both&&((own.sum == 0)||(other.sum == 0))))=true then 5 else 0):=by unfold Hid;rw[HR0.out];simp
     clear HR0
     rcases b1:(own.sum == 0) with _|_
     all_goals
      rcases b2:(other.sum == 0) with _|_
      all_goals
       cases both
       all_goals
        have HR:=HRB;rw[b1,b2]at HR
        simp only[Bool.and_true,Bool.and_false,Bool.or_true,Bool.or_false,Bool.and_self,Bool.or_self,Bool.true_and,Bool.false_and,Bool.true_or,Bool.false_or,if_true,if_false,Bool.false_eq_true]at HR
        clear HRB;generalize own.sum=x1 at *;generalize other.sum=x2 at *
        go_enter Tryz.func77,Tryz.ntmps77
        go_wp2_with (first
         | (go_at_call 80;(with_reducible refine (more_first (CV'.out _)).mono ?_);rintro e w' ⟨rfl,t,rfl⟩)
         | (go_at_call_of 115 A;(refine (more_call (CVA.out _ (HX.out.more _))).mono ?_);rintro e w' ⟨rfl,ta,rfl⟩)
         | (go_at_call_of 115 B;(refine (more_call (CVB.out _ (HY.out.more _))).mono ?_);rintro e w' ⟨rfl,tb,rfl⟩)
         | (go_at_call 140;(with_reducible refine (more_call (CN.out _)).mono ?_);rintro e w' ⟨rfl,tc,rfl⟩)
         | (go_at_call 134;refine (l01In_any _ _ _ _).mono ?_;rintro e w' ⟨rfl,rfl⟩)
         | (go_at_call_of 162 A;(refine (SUA.out _ (HX.out.more _)).mono ?_);rintro e w' ⟨rfl,rfl⟩)
         | (go_at_call_of 162 B;(refine (SUB.out _ (HY.out.more _)).mono ?_);rintro e w' ⟨rfl,rfl⟩))
        go_ret
        exact⟨by rw[HR.out];rfl,by first|exact blw HB.out (Nat.le_refl _)|exact HB.out⟩
    focus
     rw[if_neg h5]at hT
     have HR:Hid (codeW p c' h' s own other both=3):=by
      unfold Hid codeW;rw[hT];rfl
     by_cases h6:wys h' c'<=1000000
     focus
      have CN:Hid (∀W:World,Calls Tryz.prog 140 #[.agg #[.int .i64 p,.int .i64 c',.int .i64 h',.int .i64 s]] W fun e w'=>e = .returned (.int .i64 (wys h' c'))/\Below W.heap.size W w'):=fun W=>by
       have:=CN0.out W;rwa [bW h6]at this
      have bi:inB (wys h' c':Int) 0 500=false:=bV (by omega)
      refine ?za
     rotate_left
     focus
      have CN:Hid (∀W:World,Calls Tryz.prog 140 #[.agg #[.int .i64 p,.int .i64 c',.int .i64 h',.int .i64 s]] W fun e w'=>e = .returned (.int .i64 (-1))/\Below W.heap.size W w'):=fun W=>by
       have:=CN0.out W;rwa [et h6]at this
      have bi:inB (-1:Int) 0 500=false:=bV (by omega)
      refine ?zb
 rotate_left 4
 case' za|zb=>
  clear CV hv hp CN0 h1 h2 hT hwb
  go_enter Tryz.func77,Tryz.ntmps77
  go_wp2_with (first
   | (go_at_call 80;(with_reducible refine (more_first (CV'.out _)).mono ?_);rintro e w' ⟨rfl,t,rfl⟩)
   | (go_at_call_of 115 A;(refine (more_call (CVA.out _ (HX.out.more _))).mono ?_);rintro e w' ⟨rfl,ta,rfl⟩)
   | (go_at_call_of 115 B;(refine (more_call (CVB.out _ (HY.out.more _))).mono ?_);rintro e w' ⟨rfl,tb,rfl⟩)
   | (go_at_call 140;(with_reducible refine (more_call (CN.out _)).mono ?_);rintro e w' ⟨rfl,tc,rfl⟩)
   | (go_at_call 134;refine (l01In_any _ _ _ _).mono ?_;rintro e w' ⟨rfl,rfl⟩))
  go_ret
 case zc|zd|ze|za|zb=>
  exact⟨by rw[HR.out];rfl,by first|exact blw HB.out (Nat.le_refl _)|exact HB.out⟩
end Go.Proofs.YtkaiilmgemaljaaGreat
/- Contract of the reference's WinChance. There are no conditions. -/
namespace Go.Proofs.YtkaiilmgemaljaaGreat
open Go.RowKit Ps Ra Ex
theorem hZ (t:RT2) (ht:t.Ok):∀(f:Nat) {own other:List Int},PosP t.h t.c own->PosP t.h t.c other->pips own+pips other<f->ValC t own other
 | 0,own,other,hq,hq2,h=>by have:=al hq.2.1;have:=al hq2.2.1;omega
 | f+1,own,other,hq,hq2,h=>ko t ht hq hq2 fun _ q hp hlt=>hZ t ht f hq2 hp (by omega)
theorem l12Value_all (t:RT2) (ht:t.Ok) {own other:List Int} (hq:PosP t.h t.c own) (hq2:PosP t.h t.c other):ValC t own other:=by
 have h1:=al hq.2.1;have h2:=al hq2.2.1
 exact hZ t ht ((pips own+pips other).toNat+1) hq hq2 (by omega)
theorem value_new {t:RT2} {w1 w2:World} {c h s:Nat} {own other:List Int} {A B:Option Addr} {ca cb:Nat} (hc':t.c=c) (hh':t.h=h) (hs':t.s=s) (hok:t.Ok) (hI:TabI t w2) (hlow:∀k,t.S k->w1.heap.size<=k) (hb:Below w1.heap.size w1 w2)
  (hp1:PosP h c own) (hp2:PosP h c other) (hA:SL w1 A h own) (hB:SL w1 B h other) (hca:h<=ca) (hcb:h<=cb):
  Calls Tryz.prog 144 #[.pointer (some ⟨t.bt,0,none⟩),.slice A h ca,.slice B h cb] w2 fun e w'=>e = .returned (.tuple #[exV (win s own other),.bool (win s own other).isSome])/\Frm t.S w2 w':=by
 subst hc' hh' hs'
 exact (l12Value_all t hok hp1 hp2 A B ca cb w2 hI ((SQ.of_sl hA hlow).below hb) hca ((SQ.of_sl hB hlow).below hb) hcb).mono fun e w' ⟨h1,_,h3⟩=>⟨h1,h3⟩
theorem js (p c h s:Int) (A B:Option Addr) (n m ca cb:Nat) (own other:List Int) (w:World) (hA:SL w A n own) (hB:SL w B m other) (hca:n<=ca) (hcb:m<=cb):
  Calls Tryz.prog 131 #[.agg #[.int .i64 p,.int .i64 c,.int .i64 h,.int .i64 s],.slice A n ca,.slice B m cb] w (RetN w (winR p c h s own other)):=by
 have HF1:Hid (Fr w ((w.alloc (.cells #[.int .i64 p,.int .i64 c,.int .i64 h,.int .i64 s] 25)).alloc (.cells #[.int .i64 0,.int .i64 0] 35)) [[.int .i64 p,.int .i64 c,.int .i64 h,.int .i64 s],[.int .i64 0,.int .i64 0]]):=((Fr.start w).allocT (by simp) _ _).allocT (by simp) _ _
 have HA1:=h_ (hA.below HF1.out.b);have HB1:=h_ (hB.below HF1.out.b);have HAL:=h_ hA.1;have HBL:=h_ hB.1;have CT:=h_ (l12Code_no p c h s 0 0 A B n m ca cb own other false _ HA1.out HB1.out);clear hA hB
 by_cases hct:codeW p c h s own other false=0
 ·have hct0:codeT p c h s [own,other]=0:=by
   unfold codeW at hct
   by_cases h0:codeT p c h s [own,other]=0
   ·exact h0
   ·rw[if_neg h0]at hct;exact hct
  obtain⟨hv,hp1,hp2,hN⟩:=gw hct0;have hvv:=ak hv
  obtain⟨c',rfl⟩:∃c':Nat,c=c':=⟨c.toNat,by omega⟩
  obtain⟨h',rfl⟩:∃h':Nat,h=h':=⟨h.toNat,by omega⟩
  obtain⟨s',rfl⟩:∃s':Nat,s=s':=⟨s.toNat,by omega⟩
  have HP1:=h_ (bz hp1);have HP2:=h_ (bz hp2)
  simp only[Int.toNat_natCast]at hN
  have hnh:h'=n:=by rw[<- HAL.out];exact (HP1.out.1).symm
  have hmh:h'=m:=by rw[<- HBL.out];exact (HP2.out.1).symm
  subst hnh;subst hmh
  have CNEW:=h_ fun (W:World)=>l12New_any p c' h' s' W hv hN
  have HW1:Hid (winR p c' h' s' own other=numR (win s' own other)):=by
   unfold Hid winR;rw[if_pos hct,Int.toNat_natCast]
  rw[hct]at CT;clear hct hct0 hv hp1 hp2 hN hvv
  go_enter Tryz.func131,Tryz.ntmps131
  go_wp2_with (fail)
  refine CT.out.mono ?_
  rintro e w1 ⟨rfl,hb1⟩
  have HF2:=h_ (HF1.out.below hb1);have HA2:=h_ (HA1.out.below hb1);have HB2:=h_ (HB1.out.below hb1);clear CT hb1 HF1 HA1 HB1;obtain⟨z0,c00,f00,c01,f01,c02,f02,c03,f03,z1,c10,f10,c11,f11⟩:=HF2.out.xf0
  go_wp2_with (fail)
  refine (CNEW.out _).mono ?_
  rintro e w2 ⟨t,_,hc',hh',hs',rfl,hok,hI,hlow,hbt,hb2⟩
  have CWIN:=h_ (value_new hc' hh' hs' hok hI hlow hb2 HP1.out HP2.out HA2.out HB2.out hca hcb);have HLOW:=h_ hlow;have HF3:=h_ (HF2.out.below hb2)
  have hz1:w.heap.size+2<=w1.heap.size:=by have:=HF2.out.z;simpa using this
  clear hc' hh' hs' hok hI hlow hbt hb2 HA2 HB2 CNEW;clear z0 c00 f00 c01 f01 c02 f02 c03 f03 z1 c10 f10 c11 f11
  go_wp2_with (fail)
  refine CWIN.out.mono ?_
  rintro e w3 ⟨rfl,hf3⟩
  have HF4:Hid (Fr w w3 [[.int .i64 p,.int .i64 c',.int .i64 h',.int .i64 s'],[.int .i64 0,.int .i64 0]]):=HF3.out.frm hf3 (fun k hk=>by have:=HLOW.out k hk;omega) (fun k hk=>by have:=HLOW.out k hk;simp;omega)
  clear hf3 HF3 HF2 CWIN HLOW
  rcases hwo:win s' own other with _|⟨m,d⟩
  ·have HWR:Hid (winR p c' h' s' own other=(0,0,3)):=by rw[HW1.out,hwo];rfl
   unfold exV
   simp only[Option.getD_none,Option.isSome_none]
   clear hwo;obtain⟨z0,c00,f00,c01,f01,c02,f02,c03,f03,z1,c10,f10,c11,f11⟩:=HF4.out.xf0
   go_wp2_with (fail)
   refine bodyPost_ret (v:=.tuple #[.agg #[.int .i64 0,.int .i64 0],.int .i64 3]) (by simp[results,Tryz.results131,go_sem,c10,c11,z1,f10,f11]) rfl (RetN.mk' HWR.out ?_)
   repeat (first|exact HF4.out.b|refine stw ?_ (by omega)|refine alw ?_ (by omega))
  ·have HWR:Hid (winR p c' h' s' own other=(m,(d:Int),0)):=by rw[HW1.out,hwo];rfl
   unfold exV
   simp only[Option.getD_some,Option.isSome_some]
   clear hwo;obtain⟨z0,c00,f00,c01,f01,c02,f02,c03,f03,z1,c10,f10,c11,f11⟩:=HF4.out.xf0
   go_wp2_with (fail)
   refine bodyPost_ret (v:=.tuple #[.agg #[.int .i64 m,.int .i64 (d:Int)],.int .i64 0]) (by simp[results,Tryz.results131,go_sem,c10,c11,z1,f10,f11]) rfl (RetN.mk' HWR.out ?_)
   repeat (first|exact HF4.out.b|refine stw ?_ (by omega)|refine alw ?_ (by omega))
 ·have HWR:Hid (winR p c h s own other=(0,0,codeW p c h s own other false)):=by
   unfold Hid winR;rw[if_neg hct]
  generalize codeW p c h s own other false=k at *
  have b0:(k != 0)=true:=by simp[hct]
  clear hct
  go_enter Tryz.func131,Tryz.ntmps131
  go_wp2_with (fail)
  refine CT.out.mono ?_
  rintro e w1 ⟨rfl,hb1⟩
  have HF2:=h_ (HF1.out.below hb1);clear CT hb1 HF1 HA1 HB1;obtain⟨z0,c00,f00,c01,f01,c02,f02,c03,f03,z1,c10,f10,c11,f11⟩:=HF2.out.xf0
  go_wp2_with (fail)
  refine bodyPost_ret (v:=.tuple #[.agg #[.int .i64 0,.int .i64 0],.int .i64 k]) (by simp[results,Tryz.results131,go_sem,c10,c11,z1,f10,f11]) rfl (RetN.mk' HWR.out ?_)
  repeat (first|exact HF2.out.b|refine stw ?_ (by omega)|refine alw ?_ (by omega))
end Go.Proofs.YtkaiilmgemaljaaGreat
/- The statement FnExactWinChance, the law's walk. There are no conditions. -/
namespace Go.Proofs.YtkaiilmgemaljaaGreat
open Go.RowKit Ps Ra Ex
end Go.Proofs.YtkaiilmgemaljaaGreat

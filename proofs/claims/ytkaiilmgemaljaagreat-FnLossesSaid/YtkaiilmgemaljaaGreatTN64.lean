/- Part of one proof. There are no conditions. -/
import Derived.Test.YtkaiilmgemaljaaGreatTN55
import Derived.Test.YtkaiilmgemaljaaGreatTU4
import Derived.Test.YtkaiilmgemaljaaGreatTN69
set_option maxHeartbeats 0
set_option linter.unusedVariables false
set_option linter.unusedSimpArgs false
set_option maxRecDepth 100000
namespace Go.Proofs.YtkaiilmgemaljaaGreat
open Go.RowKit Ps Ra Ex
def allQ (g:List Int->Option E) (l:List (List Int)):Option (List E):=l.foldl (fun s r=>s.bind fun t=>(g r).map fun x=>t++[x]) (some [])
theorem et (g:List Int->Option E) (l:List (List Int)) (r:List Int):allQ g (l++[r])=(allQ g l).bind fun t=>(g r).map fun x=>t++[x]:=by
 unfold allQ;rw[List.foldl_append];rfl
theorem allQ_none {g:List Int->Option E} {l k:List (List Int)} (h:allQ g l=none):allQ g (l++k)=none:=by
 unfold allQ at h ⊢;rw[List.foldl_append,h];clear h
 induction k with
 | nil=>rfl
 | cons q r ih=>exact ih
theorem allQ_stop {g:List Int->Option E} {l:List (List Int)} {k:Nat} (hk:k<l.length) {xs:List E} (hs:allQ g (l.take k)=some xs) (hr:g (l.getD k [])=none):allQ g l=none:=by
 have h1:allQ g (l.take (k+1))=none:=by rw[ar l [] hk,et,hs,hr];rfl
 have:=allQ_none (k:=l.drop (k+1)) h1
 rwa [List.take_append_drop]at this
theorem allQ_go {g:List Int->Option E} {l:List (List Int)} {k:Nat} (hk:k<l.length) {xs:List E} {x:E} (hs:allQ g (l.take k)=some xs) (hr:g (l.getD k [])=some x):allQ g (l.take (k+1))=some (xs++[x]):=by
 rw[ar l [] hk,et,hs,hr];rfl
theorem iB {g:List Int->Option E} {l:List (List Int)} {t:List E} (h:allQ g l=some t):t.length=l.length:=by
 induction l using aJ generalizing t with
 | nil=>unfold allQ at h;simp at h;subst h;rfl
 | snoc l q ih =>
   rw [et] at h
   cases hs : allQ g l with
   | none => rw [hs] at h; cases h
   | some u =>
     rw [hs] at h
     cases hf : g q with
     | none => rw [hf] at h; cases h
     | some x =>
       rw [hf] at h
       simp only [Option.bind_some, Option.map_some, Option.some.injEq] at h
       rw [<- h, List.length_append, List.length_append, ih hs]; rfl
noncomputable def chsR (p c h s ra rb:Int) (own other:List Int):List E×Int:=if codeK p c h s ra rb own other true=0 then (match allQ (sec s.toNat other) (resultsL own ra.toNat rb.toNat) with
 | none=>([],3)
 | some xs=>(xs,0)) else ([],codeK p c h s ra rb own other true)
theorem second_gen {t:RT} {W:World} {T:Nat->Prop} {c h s:Nat} {own other:List Int} {A B:Option Addr} {ca cb:Nat} (hc':t.c=c) (hh':t.h=h) (hs':t.s=s) (hok:t.Ok) (hI:RaceI t T W) (hT:∀k,W.heap.size<=k->¬T k)
  (hp1:PosP h c own) (hp2:PosP h c other) (hA:SQ T W A h own) (hB:SQ T W B h other) (hca:h<=ca) (hcb:h<=cb):
  Calls Tryz.prog 98 #[.pointer (some ⟨t.bt,0,none⟩),.slice A h ca,.slice B h cb] W (RetWn t T W (sec s other own)):=by
 subst hc' hh' hs'
 exact dr t hok (jh t hok hp2 hp1) T A B ca cb W hT hI hA hca hB hcb
theorem gg (p c h s ra rb:Int) (A B:Option Addr) (n m ca cb:Nat) (own other:List Int) (w:World) (hA:SL w A n own) (hB:SL w B m other) (hca:n<=ca) (hcb:m<=cb):
  Calls Tryz.prog 28 #[.agg #[.int .i64 p,.int .i64 c,.int .i64 h,.int .i64 s],.slice A n ca,.slice B m cb,.agg #[.int .i64 ra,.int .i64 rb]] w (RetEs w (chsR p c h s ra rb own other)):=by
 obtain⟨i0,hi,iz0,iz1,iz2⟩:=info_parts Tryz.infoE
 have HF1:Hid (Fr w ((w.alloc (.cells #[.int .i64 p,.int .i64 c,.int .i64 h,.int .i64 s] 25)).alloc (.cells #[.int .i64 ra,.int .i64 rb] 39)) [[.int .i64 p,.int .i64 c,.int .i64 h,.int .i64 s],[.int .i64 ra,.int .i64 rb]]):=((Fr.start w).allocT (by simp) _ _).allocT (by simp) _ _
 have HA1:=h_ (hA.below HF1.out.b);have HB1:=h_ (hB.below HF1.out.b);have HAW:=h_ hA;have HBW:=h_ hB;have CT:=h_ (dT p c h s ra rb A B n m ca cb own other _ HA1.out HB1.out);clear hA hB
 by_cases hct:codeK p c h s ra rb own other true=0
 focus
  obtain⟨ht,hro,hsum⟩:=eG hct
  obtain⟨hv,hp1,hp2,hN⟩:=de ht;have hvv:=aw hv;obtain⟨a,b,rfl,rfl,ha1,ha2,hb1,hb2⟩:=du hro
  obtain⟨c',rfl⟩:∃c':Nat,c=c':=⟨c.toNat,by omega⟩
  obtain⟨h',rfl⟩:∃h':Nat,h=h':=⟨h.toNat,by omega⟩
  obtain⟨s',rfl⟩:∃s':Nat,s=s':=⟨s.toNat,by omega⟩
  have hs1:1<=s':=by omega
  have hs6:s'<=6:=by omega
  have hh1:0<h':=by omega
  have hh24:h'<=24:=by omega
  obtain⟨hq1,hq36,_⟩:=sq_bd hs1 hs6;have HP1:=h_ (ba hp1);have HP2:=h_ (ba hp2)
  simp only[Int.toNat_natCast]at hN
  have hnh:h'=n:=by rw[<- HAW.out.1];exact (HP1.out.1).symm
  have hmh:h'=m:=by rw[<- HBW.out.1];exact (HP2.out.1).symm
  subst hnh;subst hmh
  have CNEW:=h_ fun (W:World)=>hJ p c' h' s' W hv hN
  have HPP:=HP1.out
  have CRES:=h_ fun (S:Nat->Prop) (W:World) (hx:SQ S W A h' own) (hS:∀k,W.heap.size<=k->¬S k)=>bT S A h' ca a b own W hx hca ⟨HPP.1,HPP.2.1,by have:=HPP.2.2;omega⟩ hh24 hh1 hb1 hb2 (by omega) hS
  have HRP:Hid (∀q∈resultsL own a b,PosP h' c' q):=fun q h=>(ax (by omega) hb1 HPP q h).1
  have hlen:(resultsL own a b).length<=1000000:=Nat.le_trans (bN (by omega) hb1 HPP hh24) (by omega)
  have HW0:Hid (chsR p c' h' s' a b own other=match allQ (sec s' other) (resultsL own a b) with|none=>([],3)|some xs=>(xs,0)):=by
   unfold Hid chsR;rw[if_pos hct]
   simp only[Int.toNat_natCast]
  rw[hct]at CT;clear hct ht hro hsum hv hp1 hp2 hN hvv HPP ha1 ha2 hb1 hb2;generalize resultsL own a b=L at *;generalize hnl:L.length=nl at *;have HNL:=h_ hnl;clear hnl
  refine ?za
 rotate_left
 focus
  have HWR:Hid (chsR p c h s ra rb own other=([],codeK p c h s ra rb own other true)):=by
   unfold Hid chsR;rw[if_neg hct]
  generalize codeK p c h s ra rb own other true=k at *
  have b0:(k != 0)=true:=by simp[hct]
  clear hct
  refine ?zb
 rotate_left
 case' za|zb=>
  go_enter Tryz.func28,Tryz.ntmps28
  go_wp2_with (fail)
  refine CT.out.mono ?_
  rintro e w1 ⟨rfl,hb1⟩
  have HF2:=h_ (HF1.out.below hb1);clear CT hb1 HF1 HA1 HB1;obtain⟨z0,c00,f00,c01,f01,c02,f02,c03,f03,z1,c10,f10,c11,f11⟩:=HF2.out.xf1
  go_wp2_with (fail)
 case za=>
  refine (CNEW.out _).mono ?_
  rintro e w2 ⟨t,_,hc',hh',hs',rfl,hok,hI,hlow,hbt,hb2⟩
  clear z0 c00 f00 c01 f01 c02 f02 c03 f03 z1 c10 f10 c11 f11;have HF3:=h_ (HF2.out.below hb2)
  have HLW:Hid (∀k,t.S k->w.heap.size<=k):=fun k hk=>Nat.le_trans HF2.out.b.size (hlow k hk)
  have HA3:=h_ ((SQ.of_sl HAW.out HLW.out).below HF3.out.b)
  have CRES1:=h_ (CRES.out t.S w2 HA3.out (fun k hk h=>by have:=hI.ltS k h;omega))
  obtain⟨z0,c00,f00,c01,f01,c02,f02,c03,f03,z1,c10,f10,c11,f11⟩:=HF3.out.xf1;clear HF2 hb2 CRES HA3;have HI2:=h_ hI;clear hI hlow hbt
  go_wp2_with (fail)
  refine CRES1.out.mono ?_
  rintro e w3 ⟨u,rfl,hop,hb3⟩
  clear z0 c00 f00 c01 f01 c02 f02 c03 f03 z1 c10 f10 c11 f11;obtain⟨Al,cl,rfl,hpl,hcl⟩:=hop.read;rw[HNL.out]at hpl hcl ⊢;have HPL:=h_ hpl
  have HSZ:Hid (∀k,t.S k->k<w3.heap.size):=fun k hk=>Nat.lt_of_lt_of_le (HI2.out.ltS k hk) hb3.size
  have HI0:Hid (RaceI t (wth t.S (.slice none 0 0)) w3):=(HI2.out.below hb3).less (fun k hk=>hk.elim id fun h=>by cases h) (fun k hk=>.inl hk)
  have HB0:Hid (Below w.heap.size w w3):=HF3.out.b.trans (hb3.mono HF3.out.b.size);have hz0:w.heap.size<=w3.heap.size:=HB0.out.size
  have CB:=h_ fun (T:Nat->Prop) (W:World) (q:List Int) (Aq:Option Addr) (cq:Nat) (hI:RaceI t T W) (hT:∀k,W.heap.size<=k->¬T k) (hq:PosP h' c' q) (hA:SQ T W Aq h' q) (hB:SQ T W B h' other) (hcq:h'<=cq)=>
   second_gen hc' hh' hs' hok hI hT hq HP2.out hA hB hcq hcb
  have HTN:Hid (∀(W:World) (v:Value) (xs:List E),w3.heap.size<=W.heap.size->OwnE W w3.heap.size v xs->∀k,W.heap.size<=k->¬wth t.S v k):=fun W v xs hz ho k hk=>by
   rintro (h|h)
   ·have:=HSZ.out k h;omega
   ·have:=(World.ownsRow.lt ho k h).2;omega
  have HUU:Hid (∀(W:World) (v:Value) (xs:List E),OwnE W w3.heap.size v xs->∀k,wth t.S v k->w.heap.size<=k):=fun W v xs ho k hk=>by
   rcases hk with h|h
   ·exact HLW.out k h
   ·have:=(World.ownsRow.lt ho k h).1;omega
  have HUL:Hid (∀(W:World) (v:Value) (xs:List E),OwnE W w3.heap.size v xs->∀k,wth t.S v k->t.S k\/w3.heap.size<=k):=fun W v xs ho k hk=>by
   rcases hk with h|h
   ·exact .inl h
   ·exact .inr (World.ownsRow.lt ho k h).1
  clear hc' hh' hs' hok HF3 CNEW HI2 hop hb3 hpl CRES1 HP1 HP2
  go_wp2_with (fail)
  go_loopw [12,31] (fun v12 v31 wr=>∃(k:Nat) (xs:List E),k<=nl/\v31 = .int .i64 k/\Hid (allQ (sec s' other) (L.take k)=some xs/\xs.length=k)/\(∃vx,vx=v12/\Hid (OwnE wr w3.heap.size vx xs/\RaceI t (wth t.S vx) wr))/\Hid (Frm t.S w3 wr)) (fun _ v31 _=>nl-(intOf v31).toNat)
  case atStart=>exact⟨0,[],by omega,rfl,⟨rfl,rfl⟩,⟨_,rfl,World.ownsRow_nil _ _ _ _,HI0.out⟩,Frm.refl _ _⟩
  case round=>
   clear HI0;obtain⟨k,xs,hk,rfl,hxs,⟨vx,rfl,hOI⟩,HFw⟩:=hrel;have HI:=h_ hOI.out.2;have HO:=h_ hOI.out.1;clear hOI;have hxk:=hxs.out.2;have HXK:=h_ hxk;clear hxk
   by_cases hlt:k<nl
   ·have hki:(k:Int)<(nl:Int):=by omega
    have hzr:w3.heap.size<=wr.heap.size:=HFw.out.size;have hUU:=HUU.out wr vx xs HO.out
    have HLK:Hid (k<L.length):=by unfold Hid;rw[HNL.out];exact hlt
    have HNR:=h_ (wth_low HO.out HSZ.out);obtain⟨bl,ol,Bq,mq,cq,rfl,hzl,hcq,hsq,hmq⟩:=HPL.out.atF HFw.out hlt;have hqp:=HRP.out _ (am L [] HLK.out)
    have hmh:h'=mq:=by rw[<- hsq.1.1];exact hqp.1.symm
    subst hmh;have hBW:Below w.heap.size w wr:=frm_low HB0.out HFw.out HLW.out
    have CB1:=h_ (CB.out (wth t.S vx) wr _ _ _ HI.out (HTN.out wr vx xs hzr HO.out) hqp ((hsq.set (HUL.out wr vx xs HO.out)).frm (HFw.out.mono fun k hk=>.inl hk)) ((SQ.of_sl HBW.out hUU).below hBW) hmq)
    clear hsq hqp
    rcases hbs:sec s' other (L.getD k []) with _|⟨xn,xd⟩
    ·have HRE:Hid (chsR p c' h' s' a b own other=([],3)):=by
      unfold Hid;rw[HW0.out,allQ_stop HLK.out hxs.out.1 hbs]
     rw[hbs]at CB1;clear hbs hUU
     go_wp2_with (fail)
     refine CB1.out.mono ?_
     rintro e w4 ⟨rfl,hI2,hf2⟩
     have HF2:=h_ (frm_low hBW hf2 HLW.out);unfold exV
     simp only[Option.getD_none,Option.isSome_none]
     clear hI2 hf2 HFw HI HO CB1 hBW
     go_wp2_with (fail)
     go_ret2
     exact RetEs.no HRE.out (alw HF2.out (Nat.le_refl _))
    ·have HXS:Hid (allQ (sec s' other) (L.take (k+1))=some (xs++[⟨xn,xd⟩])):=allQ_go HLK.out hxs.out.1 hbs
     rw[hbs]at CB1;clear hbs hUU hBW
     go_wp2_with (fail)
     refine CB1.out.mono ?_
     rintro e w4 ⟨rfl,hI2,hf2⟩
     have HF3:Hid (Frm t.S w3 ((w4.alloc (.cells #[.int .i64 xn,.int .i64 (xd:Int)] 35)).alloc (.cells #[.int .i64 xn,.int .i64 (xd:Int)] 35))):=((HFw.out.trans hf2).alloc _).alloc _;have HI3:Hid (RaceI t (wth t.S vx) ((w4.alloc (.cells #[.int .i64 xn,.int .i64 (xd:Int)] 35)).alloc (.cells #[.int .i64 xn,.int .i64 (xd:Int)] 35))):=(hI2.alloc _).alloc _
     have HROW:Hid (((w4.alloc (.cells #[.int .i64 xn,.int .i64 (xd:Int)] 35)).alloc (.cells #[.int .i64 xn,.int .i64 (xd:Int)] 35)).ownsRow w3.heap.size 35 2 vx xs.length (exC xs)):=
      row_alloc (row_alloc (hf2.row HO.out fun j hj=>HNR.out j hj.symm) _) _
     have HVL:=h_ fun (j:Nat) (hj:vx.ownBlock=some j)=>World.ownsRow.lt HO.out j hj
     have hzs:=h_ (Nat.le_trans hzr hf2.size);unfold exV
     simp only[Option.getD_some,Option.isSome_some]
     clear hI2 hf2 HFw HI HO CB1;have hzq:w3.heap.size<=w4.heap.size:=hzs.out
     have hTN:Hid (∀j u,[Value.int .i64 xn,.int .i64 (xd:Int)][j]? = some u->((w4.alloc (.cells #[.int .i64 xn,.int .i64 (xd:Int)] 35)).alloc (.cells #[.int .i64 xn,.int .i64 (xd:Int)] 35)).cell? ((⟨w4.heap.size+1,0,none⟩:Addr).add j)=some u):=by
      have h:=gR (w4.alloc (.cells #[.int .i64 xn,.int .i64 (xd:Int)] 35)) xn (xd:Int) 35
      rw[show (w4.alloc (.cells #[.int .i64 xn,.int .i64 (xd:Int)] 35)).heap.size=w4.heap.size+1 by simp]at h
      exact h
     go_wp2_with (at_builtin;(refine wpList_append_own_at _ rfl _ _ 29 rfl w3.heap.size 35 i0 (.agg #[.int .i64 0,.int .i64 0]) 2 16 Tryz.underlying29 hi iz0 iz1 iz2 rfl (by decide) _ _ _ rfl HROW.out ⟨w4.heap.size+1,0,none⟩ 1 1 [.int .i64 xn,.int .i64 (xd:Int)] rfl rfl hTN.out (dY _ _) (by have:=HXK.out;unfold maxLen;omega) (by have:=HXK.out;omega) (by simp;omega) ?_);intro v' w5 hown hgrow _ hat)
     have HI4:Hid (RaceI t (wth t.S v') w5):=HI3.out.grew hgrow hat HNR.out
     have HF4:Hid (Frm t.S w3 w5):=HF3.out.outs (Frm.of_grown hgrow) fun x hx=>(HVL.out x hx.symm).1
     have HO4:Hid (OwnE w5 w3.heap.size v' (xs++[⟨xn,xd⟩])):=by
      unfold Hid OwnE;rw[jG,List.length_append]
      exact hown
     have HL4:Hid ((xs++[(⟨xn,xd⟩:E)]).length=k+1):=by unfold Hid;rw[List.length_append,HXK.out];rfl
     clear hown hgrow hat HI3 HF3 HROW
     go_wp2_with (fail)
     go_roundw
     case rel=>exact⟨k+1,xs++[⟨xn,xd⟩],by omega,by go_num,⟨HXS.out,HL4.out⟩,⟨_,rfl,HO4.out,HI4.out⟩,HF4⟩
     case measure=>(simp[intOf])<;>omega
   ·have hke:k=nl:=by omega
    have HRE:Hid (chsR p c' h' s' a b own other=(xs,0)):=by
     have h:=hxs.out.1
     rw[List.take_of_length_le (by rw[HNL.out];omega)]at h
     unfold Hid;rw[HW0.out,h]
    have HBW2:=h_ (frm_low HB0.out HFw.out HLW.out);clear hxs HI HFw
    go_wp2_with (fail)
    go_ret2
    exact RetEs.yes HRE.out hz0 HO.out HBW2.out
 case zb=>
  go_ret2
  exact RetEs.no HWR.out HF2.out.b
end Go.Proofs.YtkaiilmgemaljaaGreat

/- Part of one proof. There are no conditions. -/
import Derived.Test.YtcmeoenkgmghkaaGreatPN34
set_option maxHeartbeats 0
set_option linter.unusedVariables false
set_option linter.unusedSimpArgs false
set_option maxRecDepth 100000
open Go.IntKind renaming i64->C
open Go.Value renaming slice->D,tuple->J,bool->K,agg->Q
open Go.Obj renaming cells->F
open Go.Ending renaming returned->I
namespace Go.Proofs.YtcmeoenkgmghkaaGreat
open Go.RowKit Ps Ra Ex Go.Maps
theorem Tryz.infoLL:(Tryz.prog.info? 186).map (fun i=>(i.zero,i.size,i.bytes))=some (some (D none 0 0),1,24):=by kernel_rfl
def PLV(T:Nat->Prop)(w:World)(u:Value)(ps:List (List Int)):Prop:=∃A n c,u=D A n c/\PL T w A n ps/\n<=c
def PLVs(T:Nat->Prop)(w:World)(cs:List Value)(ls:List (List (List Int))):Prop:=cs.length=ls.length/\∀i,i<cs.length->PLV T w (cs.getD i undef) (ls.getD i [])
def OR(T:Nat->Prop)(w:World)(base:Nat)(v:Value)(ls:List (List (List Int))):Prop:=∃cs,w.ownsRow base 186 1 v ls.length cs/\PLVs (wth T v) w cs ls/\∀k,v.ownBlock=some k->¬T k
section
variable {T T' O:Nat->Prop}{w w':World}{u v:Value}{cs ds:List Value}{ps:List (List Int)}{ls ms:List (List (List Int))}{base:Nat}
theorem PLV.frm(h:PLV T w u ps)(hf:Frm T w w'):PLV T w' u ps:=let ⟨A,n,c,h1,h2,h3⟩:=h;⟨A,n,c,h1,h2.frm hf,h3⟩
theorem PLV.set(h:PLV T w u ps)(hS:∀k,T' k->T k\/w.heap.size<=k):PLV T' w u ps:=let ⟨A,n,c,h1,h2,h3⟩:=h;⟨A,n,c,h1,h2.set hS,h3⟩
theorem PLVs.frm(h:PLVs T w cs ls)(hf:Frm T w w'):PLVs T w' cs ls:=⟨h.1,fun i hi=>(h.2 i hi).frm hf⟩
theorem PLVs.set(h:PLVs T w cs ls)(hS:∀k,T' k->T k\/w.heap.size<=k):PLVs T' w cs ls:=⟨h.1,fun i hi=>(h.2 i hi).set hS⟩
theorem PLVs.nil_(T:Nat->Prop)(w:World):PLVs T w [] []:=⟨rfl,fun i hi=>absurd hi (by simp)⟩
theorem PLVs.one(h:PLV T w u ps):PLVs T w [u] [ps]:=⟨rfl,fun i hi=>by
 have:i=0:=by simpa using hi
 subst this;exact h⟩
theorem PLVs.append(h:PLVs T w cs ls)(k:PLVs T w ds ms):PLVs T w (cs++ds) (ls++ms):=by
 refine⟨by simp[h.1,k.1],fun i hi=>?_⟩
 by_cases hlt:i<cs.length
 ·have:=h.2 i hlt
  rw[bF _ _ _ hlt,bF _ _ _ (by rw[<-h.1];exact hlt)];exact this
 ·rw[aK _ _ _ (by omega),aK _ _ _ (by rw[<- h.1];omega),h.1]
  have:=k.2 (i-cs.length) (by simp at hi;omega)
  rwa [h.1]at this
theorem OR.frm(h:OR T w base v ls)(hf:Frm T w w'):OR T w' base v ls:=
 let ⟨cs,h1,h2,h3⟩:=h;⟨cs,hf.row h1 h3,h2.frm (hf.mono fun k hk=>.inl hk),h3⟩
theorem OR.below(h:OR T w base v ls)(hb:Below w.heap.size w w'):OR T w' base v ls:=h.frm (Frm.of_below' T hb)
theorem OR.lt(h:OR T w base v ls):∀k,v.ownBlock=some k->base<=k/\k<w.heap.size:=let ⟨_,h1,_⟩:=h;World.ownsRow.lt h1
theorem OR.nil_(T:Nat->Prop)(w:World)(base:Nat):OR T w base (D none 0 0) []:=⟨[],World.ownsRow_nil _ _ _ _,PLVs.nil_ _ _,fun k hk=>by cases hk⟩
theorem OR.grew{w1:World}{v':Value}{m:Nat}(hp:PLVs (wth T v) w cs ls)(hq:PLVs (wth T v) w ds ms)(hown:w1.ownsRow base 186 1 v' (ls.length+m) (cs++ds))(hm:m=ms.length)
  (hg:w.grownBy w1 v.ownBlock) (hat:v'.ownBlock=v.ownBlock\/v'.ownBlock=some w.heap.size) (hS:∀k,base<=k->¬T k):OR T w1 base v' (ls++ms):=by
 subst hm
 refine⟨cs++ds,by rw[List.length_append];exact hown,?_,fun k hk=>hS k (World.ownsRow.lt hown k hk).1⟩
 have h1:=(hp.append hq).set (T':=fun k=>wth T v k\/wth T v' k) fun k hk=>hk.elim .inl (jA hat k)
 exact(h1.frm ((du hg).mono fun k hk=>.inl hk)).set fun k hk=>.inl (.inr hk)
theorem OR.rsv(h:OR T w base v ls):RSV T w v ls:=by
 obtain⟨cs,h1,h2,h3⟩:=h
 obtain⟨A,c,hv,hs,hc⟩:=bp h1 h3 (by omega)
 refine⟨A,_,c,hv,⟨rfl,fun hn=>?_⟩,hc⟩
 obtain⟨b,off,hA,hlt,hb,hcell⟩:=hs.2 hn
 refine⟨b,off,hA,hlt,hb,fun k hk=>?_⟩
 obtain⟨B,m,c',hu,hpl,hm⟩:=h2.2 k (by rw[h2.1];exact hk)
 exact⟨B,m,c',by rw[hcell k (by omega),hu],hpl.set fun k hk=>.inl (.inl hk),hm⟩
end
theorem rsl_take{s k:Nat}{q:List Int}(h:k<(ah s).length):(rsl s q).take (k+1)=(rsl s q).take k++[resultsL q ((ah s).getD k (0,0)).1 ((ah s).getD k (0,0)).2]:=by
 unfold rsl
 rw[aE _ ([]:List (List Int)) (by simpa using h),getD_map _ _ (0,0) _ h]
theorem rsl_len(s:Nat)(q:List Int):(rsl s q).length=(ah s).length:=by unfold rsl;simp
theorem RaceM.put1{t:RT}{T:Nat->Prop}{w w':World}{f1 f2 f3:Lit->Option Value}{q:List Int}{v:Value}(h:RaceM t T w f1 f2 f3)(hs:MapV Tryz.prog 2 w' t.b1 (keysU t.N) (putF f1 (t.k1 q) v))(hg:w.grownBy w' (some t.b1))
  (hT:T t.b1) (d12:t.b1≠t.b2) (d13:t.b1≠t.b3) (hq:PosP t.h t.c q) (hv:RSV T w v (rsl t.s q)):RaceM t T w' (putF f1 (t.k1 q) v) f2 f3:=by
 obtain⟨-,h2,h3,h4,h5⟩:=h
 have hf:Frm (fun k=>k=t.b1) w w':=(Frm.of_grown hg).mono fun k hk=>by injection hk
 have hO:∀k,k=t.b1->T k:=fun k hk=>by rw[hk];exact hT
 refine⟨hs,h2.frm hf (Ne.symm d12),h3.frm hf (Ne.symm d13),fun q' hq' u hu=>?_,h5⟩
 by_cases e:t.k1 q'=t.k1 q
 ·rw[e,gT]at hu
  injection hu with hu;subst hu;rw[k1_inj hq' hq e]
  exact hv.frm hf hO
 ·rw[dV f1 e]at hu
  exact(h4 q' hq' u hu).frm hf hO
theorem frm_S{t:RT}{w w':World}{b:Nat}(hg:w.grownBy w' (some b))(hb:t.S b):Frm t.S w w':=(Frm.of_grown hg).mono fun k hk=>by injection hk with hk;rw[hk];exact hb
def RetRs(t:RT)(T:Nat->Prop)(w:World)(q:List Int)(e:Ending)(w':World):Prop:=∃u,e=I u/\RSV T w' u (rsl t.s q)/\RaceI t T w'/\Frm t.S w w'
theorem lU(t:RT)(ht:t.Ok)(T:Nat->Prop)(A:Option Addr)(ca:Nat)(q:List Int)(w:World)(hT:∀k,w.heap.size<=k->¬T k)(hI:RaceI t T w)(hx:SQ T w A t.h q)(hca:t.h<=ca)(hq:PosP t.h t.c q):
  Calls Tryz.prog 219 #[.pointer (some ⟨t.bt,0,none⟩),D A t.h ca] w (RetRs t T w q):=by
 have hv:=aA ht.v
 have hc15:t.c<=15:=by omega
 have hh24:t.h<=24:=by omega
 have hh1:0<t.h:=by omega
 have hs6:t.s<=6:=by omega
 have HT:=h_ hT;have HI:=h_ hI;have HX:=h_ hx;have HQ:=h_ hq;have HR:=h_ ht.r;have CNUM:=h_ (cK t.p t.s t.c t.h A t.h ca q w hx.1 hq hc15 hh24);have hnum:num t.c q<500:=Nat.lt_of_lt_of_le (dD hq) ht.n
 have HNU:Hid (Lit.int C (num t.c q:Int)∈keysU t.N):=mem_keysU (by have:=dD hq;have h1:1<=t.N:=wys_pos _ _;have:t.N*1<=t.N*t.N:=Nat.mul_le_mul_left _ h1;unfold RT.N at *;omega)
 have HN5:=h_ ht.n
 have hnr:t.nr<=21:=by rw[<-ht.r];exact cL hs6
 obtain⟨i0,hi,hz0,hz1,hz2⟩:=info_parts Tryz.infoLL
 have hnr1:0<t.nr:=by
  have h1:=bX t.s
  have h2:1*2<=t.s*(t.s+1):=Nat.mul_le_mul (by omega) (by omega)
  have:=ht.r
  omega
 obtain⟨rb,ro,hA0,_,_,_⟩:=hI.rl.at hnr1;have HA0:=h_ hA0
 have HP15:Hid (PosP t.h 15 q):=⟨hq.1,hq.2.1,by have:=hq.2.2;omega⟩
 have HRM:Hid (∀k,k<t.nr->1<=((ah t.s).getD k (0,0)).2/\((ah t.s).getD k (0,0)).2<=((ah t.s).getD k (0,0)).1/\((ah t.s).getD k (0,0)).1<=t.s):=fun k hk=>bB.1 (ak _ _ (by rw[ht.r];exact hk))
 clear hA0;have c0:=hI.tb 0 _ rfl;have c1:=hI.tb 1 _ rfl;have c2:=hI.tb 2 _ rfl;have c3:=hI.tb 3 _ rfl;clear hT hI hx hq hv ht
 go_enter Tryz.func219,Tryz.ntmps219
 go_wp2_with (fail)
 refine CNUM.out.mono ?_
 rintro e w1 ⟨rfl,hb1⟩
 have HB1:=h_ hb1;have HI1:Hid (RaceI t T w1):=HI.out.below hb1;have e6:=HI1.out.tb 6 _ rfl
 have e5:w1.cell? ⟨t.bt,5,none⟩=some (D (some ⟨rb,ro,none⟩) t.nr t.cr):=by rw[<-HA0.out];exact HI1.out.tb 5 _ rfl
 obtain⟨f1,f2,f3,hm⟩:=HI1.out.maps;have HM:=h_ hm
 have hlook:=HM.out.1.look_ok keyI Tryz.underlying165 (z:=D none 0 0) (by kernel_rfl) (i7 (k:=num t.c q) (by omega))
 clear hb1 c0 c1 c2 c3 CNUM hm
 rcases hf:f1 (t.k1 q)with _|u
 ·have hlk:(Instr.lookup 165 (.map (some t.b1)) (.int C (num t.c q:Int)) true).run Tryz.prog w1 = .ok (J #[D none 0 0,K false]) w1:=by
   have h:=hlook
   rw[show Lit.int C (num t.c q:Int)=t.k1 q from rfl,hf]at h
   exact h
  clear hf hlook
  go_wp2_with (fail)
  go_loopw [6,32] (fun v6 v32 wr=>∃k:Nat,k<=t.nr/\v32= .int C k/\(∃vx,vx=v6/\OR T wr w1.heap.size vx ((rsl t.s q).take k))/\Below w1.heap.size w1 wr) (fun _ v32 _=>t.nr-(intOf v32).toNat)
  case atStart=>exact⟨0,by omega,rfl,⟨_,rfl,OR.nil_ _ _ _⟩,Below.refl _ _⟩
  case round=>
   clear e5 e6 hlk;obtain⟨k,hk,rfl,⟨vx,rfl,hO⟩,hb⟩:=hrel;have HO:=h_ hO;have HBr:=h_ hb;clear hO hb
   by_cases hlt:k<t.nr
   ·have hlk:(k:Int)<(t.nr:Int):=by omega
    have hrl:=HI1.out.rl.below HBr.out;rw[HA0.out]at hrl;obtain⟨_,_,hA,hz,q1,q2⟩:=hrl.at hlt;injection hA with hA;injection hA with hA1 hA2;subst hA1 hA2;obtain⟨r1,r2,r3⟩:=HRM.out k hlt
    have HRT:Hid ((rsl t.s q).take (k+1)=(rsl t.s q).take k++[resultsL q ((ah t.s).getD k (0,0)).1 ((ah t.s).getD k (0,0)).2]):=rsl_take (by rw[HR.out];exact hlt)
    have HLT:Hid (((rsl t.s q).take k).length=k):=by unfold Hid;rw[List.length_take,rsl_len,HR.out];omega
    generalize (ah t.s).getD k (0,0)=r at *;obtain⟨a,b⟩:=r
    simp only at r1 r2 r3 q1 q2 HRT
    have HBW:Hid (Below w.heap.size w (wr.alloc (F #[.int C a,.int C b] 37))):=(HB1.out.trans (HBr.out.mono HB1.out.size)).alloc (Nat.le_trans HB1.out.size HBr.out.size) _;have hzz:w.heap.size<=w1.heap.size:=HB1.out.size;have HVL:=h_ HO.out.lt
    have CRES:Hid (Calls Tryz.prog 228 #[D A t.h ca,Q #[.int C a,.int C b]] (wr.alloc (F #[.int C a,.int C b] 37)) (RetO1 (wth T vx) (wr.alloc (F #[.int C a,.int C b] 37)) (resultsL q a b))):=
     ix (wth T vx) A t.h ca a b q _ ((HX.out.set (S':=wth T vx) fun x hx=>hx.elim .inl fun h=>.inr (Nat.le_trans hzz (HVL.out x h).1)).frm (Frm.of_below' _ HBW.out)) hca HP15.out hh24 hh1 r1 r2 (by omega) (fun x hx=>by
      rintro(h|h)
      ·exact HT.out x (Nat.le_trans HBW.out.size hx) h
      ·have:=(HVL.out x h).2;simp at hx;omega)
    obtain⟨cs,hrow,hpv,_⟩:=HO.out;have HROW0:=h_ hrow;have HPV0:=h_ hpv;clear hrow hpv r1 r2 r3 hrl HRM
    go_wp2_with (fail)
    refine CRES.out.mono ?_
    rintro e w2 ⟨v2,rfl,ho2,hb2⟩
    obtain⟨A2,c2,rfl,hpl2,hc2⟩:=ho2.read
    have HB2:Hid (Below wr.heap.size wr w2):=((Below.refl _ _).alloc (Nat.le_refl _) _).trans (hb2.mono (by simp))
    generalize (resultsL q a b).length=n2 at *;have HROW:=h_ (row_alloc (own_below HROW0.out HB2.out) (F #[D A2 n2 c2] 186));have HPV:=h_ ((HPV0.out.frm (Frm.of_below' _ HB2.out)).frm ((Frm.refl (wth T vx) _).alloc (F #[D A2 n2 c2] 186)));have HPE:Hid (PLVs (wth T vx) (w2.alloc (F #[D A2 n2 c2] 186)) [D A2 n2 c2] [resultsL q a b]):=PLVs.one ⟨A2,n2,c2,rfl,hpl2.alloc _,hc2⟩;have HB3:Hid (Below w1.heap.size w1 (w2.alloc (F #[D A2 n2 c2] 186))):=(HBr.out.trans (HB2.out.mono HBr.out.size)).alloc (Nat.le_trans HBr.out.size HB2.out.size) _;have hzw2:w1.heap.size<=w2.heap.size:=Nat.le_trans HBr.out.size HB2.out.size;clear ho2 hpl2 hb2 HROW0 HPV0 CRES
    go_wp2_with (at_builtin;(refine wpList_append_own_at _ rfl _ _ 230 rfl w1.heap.size 186 i0 (D none 0 0) 1 24 Tryz.underlying230 hi hz0 hz1 hz2 rfl (by decide) _ _ _ rfl HROW.out ⟨w2.heap.size,0,none⟩ 1 1 [D A2 n2 c2] rfl rfl (one_new _ _ _) (aI _ _ _) (by have:=HLT.out;unfold maxLen;omega) (by have:=HLT.out;omega) (by simp;omega) ?_);intro v' w3 hown hgrow _ hat)
    have HO2:Hid (OR T w3 w1.heap.size v' ((rsl t.s q).take k++[resultsL q a b])):=OR.grew HPV.out HPE.out hown rfl hgrow hat (fun x hx=>HT.out x (Nat.le_trans hzz hx))
    have HB4:Hid (Below w1.heap.size w1 w3):=HB3.out.grown hgrow (by simp;omega) (fun x hx=>(HVL.out x hx).1)
    clear hown hgrow hat HROW HPV HPE
    go_wp2_with (fail)
    go_roundw
    case rel=>exact⟨k+1,by omega,by go_num,⟨_,rfl,by rw[HRT.out];exact HO2.out⟩,HB4.out⟩
    case measure=>(simp[intOf])<;>omega
   ·have hke:k=t.nr:=by omega
    have HOE:Hid (OR T wr w1.heap.size vx (rsl t.s q)):=by
     have h:=HO.out
     rwa [hke,List.take_of_length_le (by rw[rsl_len,HR.out];exact Nat.le_refl _)]at h
    have HIr:Hid (RaceI t T wr):=HI1.out.below HBr.out;have hM1:=HM.out.1.below HBr.out
    obtain⟨w3,hrun,hst,hgr⟩:=hM1.store keyI Tryz.underlying165 (fe HN5.out) (key:=.int C (num t.c q:Int)) (val:=vx) (i7 (by omega)) HNU.out
    have HRES:Hid (RetRs t T w q (I vx) w3):=by
     have hTb:T t.b1:=HIr.out.sub _ (.inl rfl)
     have hf:Frm (fun k=>k=t.b1) wr w3:=(Frm.of_grown hgr).mono fun k hk=>by injection hk
     have hO:∀k,k=t.b1->T k:=fun k hk=>by rw[hk];exact hTb
     have hMr:RaceM t T wr f1 f2 f3:=HM.out.frm (Frm.of_below HBr.out) (fun _ h=>h.elim) (fun _ h=>h.elim)
     refine⟨vx,rfl,HOE.out.rsv.frm hf hO,⟨fun j v hv=>hf.cell' (HIr.out.tb j v hv) fun h=>HIr.out.nt (hO _ h),HIr.out.nt,HIr.out.rl.frm (hf.mono hO),HIr.out.sub,HIr.out.d12,HIr.out.d13,HIr.out.d23,_,_,_,hMr.put1 hst hgr hTb HIr.out.d12 HIr.out.d13 HQ.out HOE.out.rsv⟩,?_⟩
     exact(Frm.of_below' _ (HB1.out.trans (HBr.out.mono HB1.out.size))).trans (frm_S hgr (.inl rfl))
    have e6:=HIr.out.tb 6 _ rfl;clear HOE hst hgr HO hM1
    go_wp2_with (fail)
    go_ret
    exact HRES.out
 ·have hlk:(Instr.lookup 165 (.map (some t.b1)) (.int C (num t.c q:Int)) true).run Tryz.prog w1 = .ok (J #[u,K true]) w1:=by
   have h:=hlook
   rw[show Lit.int C (num t.c q:Int)=t.k1 q from rfl,hf]at h
   exact h
  have HRES:Hid (RetRs t T w q (I u) w1):=⟨u,rfl,HM.out.2.2.2.1 q HQ.out u hf,HI1.out,Frm.of_below' _ HB1.out⟩;clear hf hlook
  go_wp2_with (fail)
  go_ret
  exact HRES.out
open Go.RowKit Ps Ra Ex Go.Maps
theorem jV{B:Int}(hB:1<=B){rs:List (Nat×Nat)}{xs:List E}{e:E}(h:meanE B rs xs=some e):Val B e:=by
 unfold meanE at h
 rcases hs:sumE B (rs.zip xs)with _|t
 ·rw[hs]at h;cases h
 ·rw[hs]at h;exact ma hB h
theorem val_val{s:Nat}(hB:1<=sq s):∀(f:Nat) {own other:List Int} {e:E},val s f own other=some e->Val (sq s) e
 | 0,own,other,e,h=>by cases h
 |f+1,own,other,e,h=>by
   unfold val at h
   split at h
   ·injection h with h;subst h;exact eA
   · split at h
     ·injection h with h;subst h;exact gv
     · cases hs : allS (fun r => (bestS (s * s) (fun q => (val s f other q).bind (oneM (s * s))) (resultsL own r.1 r.2)).map fun t => t.2.2) (ah s) with
       |none=>rw [hs]at h;cases h
       |some xs=>rw [hs]at h;exact jV hB h
theorem win_val{s:Nat}(hB:1<=sq s){own other:List Int}{e:E}(h:win s own other=some e):Val (sq s) e:=val_val hB _ h
theorem sec_val{s:Nat}(hB:1<=sq s){other q:List Int}{e:E}(h:sec s other q=some e):Val (sq s) e:=by
 unfold sec at h
 rcases hw:win s other q with _|x
 ·rw[hw]at h;cases h
 ·rw[hw]at h;exact jx hB h
theorem RaceI.stored{t:RT}{T:Nat->Prop}{w:World}(h:RaceI t T w){b i:Nat}(v:Value)(hT:T b)(hS:¬t.S b):RaceI t T (w.setCell ⟨b,i,none⟩ v):=
 h.own (Frm.set w b i v) (fun k hk=>by rw[hk];exact hT) (fun k hk=>by rw[hk];exact hS)
theorem Frm.ownSet{S:Nat->Prop}{w wr:World}(h:Frm S w wr){b i:Nat}(hb:w.heap.size<=b)(v:Value):Frm S w (wr.setCell ⟨b,i,none⟩ v):=by
 have hf:=Frm.set wr b i v
 exact⟨hf.os.trans h.os,hf.tape.trans h.tape,hf.output.trans h.output,Nat.le_trans h.size hf.size,fun k hk hn=>(hf.block k (Nat.lt_of_lt_of_le hk h.size) (by omega)).trans (h.block k hk hn)⟩
theorem RaceI.wide{t:RT}{T:Nat->Prop}{w:World}(h:RaceI t T w)(m:Nat):RaceI t (ownT T w m) w:=h.set (fun k hk=>hk.elim .inl fun h=>.inr h.1) (fun k hk=>.inl (h.sub k hk))
theorem SQ.wide{T:Nat->Prop}{w:World}{A:Option Addr}{n:Nat}{xs:List Int}(h:SQ T w A n xs)(m:Nat):SQ (ownT T w m) w A n xs:=h.set fun k hk=>hk.elim .inl fun h=>.inr h.1
theorem SQ.less{T T':Nat->Prop}{w:World}{A:Option Addr}{n:Nat}{xs:List Int}(h:SQ T w A n xs)(hS:∀k,T' k->T k):SQ T' w A n xs:=h.set fun k hk=>.inl (hS k hk)
theorem SQ.below{T:Nat->Prop}{w w':World}{A:Option Addr}{n:Nat}{xs:List Int}(h:SQ T w A n xs)(hb:Below w.heap.size w w'):SQ T w' A n xs:=h.frm (Frm.of_below' _ hb)
theorem dC{T:Nat->Prop}{w W:World}{m:Nat}(hT:∀k,w.heap.size<=k->¬T k)(hz:w.heap.size+m<=W.heap.size):∀k,W.heap.size<=k->¬ownT T w m k:=by
 rintro k hk (h|h)
 ·exact hT k (by omega) h
 ·omega
theorem bh{T:Nat->Prop}{w:World}{m b:Nat}(i:Nat)(hb:b=w.heap.size+i)(hi:i<m):ownT T w m b:=.inr ⟨by omega,by omega⟩
def WinC(t:RT)(own other:List Int):Prop:=∀(T:Nat->Prop) (A B:Option Addr) (ca cb:Nat) (w:World),(∀k,w.heap.size<=k->¬T k)->RaceI t T w->SQ T w A t.h own->t.h<=ca->SQ T w B t.h other->t.h<=cb->
 Calls Tryz.prog 98 #[.pointer (some ⟨t.bt,0,none⟩),D A t.h ca,D B t.h cb] w (RetWn t T w (win t.s own other))
def SecC(t:RT)(q other:List Int):Prop:=∀(T:Nat->Prop) (A B:Option Addr) (ca cb:Nat) (w:World),(∀k,w.heap.size<=k->¬T k)->RaceI t T w->SQ T w A t.h q->t.h<=ca->SQ T w B t.h other->t.h<=cb->
 Calls Tryz.prog 220 #[.pointer (some ⟨t.bt,0,none⟩),D A t.h ca,D B t.h cb] w (RetWn t T w (sec t.s other q))
theorem second_any(t:RT)(ht:t.Ok){q other:List Int}(hw:WinC t other q):SecC t q other:=by
 intro T A B ca cb w hT hI hA hca hB hcb
 have hv:=aA ht.v
 have hs1:1<=t.s:=by omega
 have hs6:t.s<=6:=by omega
 obtain⟨hq1,-,_⟩:=sq_bd hs1 hs6;have hlow:=hI.ltS;have HSUB:=h_ hI.sub
 have HNS:Hid (¬t.S w.heap.size):=fun h=>by have:=hlow _ h;omega
 have HF0:Hid (FrS t.S w (w.alloc (F #[.int C 0,.int C 0] 45)) [[.int C 0,.int C 0]]):=(FrS.start w hlow).allocT (by simp) _ _
 have hb0:Below w.heap.size w (w.alloc (F #[.int C 0,.int C 0] 45)):=(Below.refl _ _).alloc (Nat.le_refl _) _
 have CW:=h_ (hw (ownT T w 1) B A cb ca _ (dC hT (by simp)) ((hI.wide 1).below hb0) ((hB.wide 1).below hb0) hcb ((hA.wide 1).below hb0) hca)
 have HVAL:=h_ fun(e:E) (h:win t.s other q=some e)=>win_val hq1 h
 have HSEC:Hid (sec t.s other q=(win t.s other q).bind (oneM (sq t.s))):=rfl;clear hT hI hA hB hw hv ht hlow hb0;generalize win t.s other q=o at *
 go_enter Tryz.func220,Tryz.ntmps220
 go_wp2_with (fail)
 refine CW.out.mono ?_
 rintro e w1 ⟨rfl,hI1,hf1⟩
 have HI1:=h_ hI1;have HF1:Hid (FrS t.S w w1 [[.int C 0,.int C 0]]):=HF0.out.frm hf1;clear hI1 hf1 CW HF0
 rcases o with _|⟨m,d⟩
 focus
  have HR:Hid (sec t.s other q=none):=by rw[HSEC.out];rfl
  have HZ:=HF1;have HIz:=HI1;unfold exV
  simp only[Option.getD_none,Option.isSome_none]
  have z0:=HF1.out.l0 (by simp)
  have c00:=HF1.out.c0 0 rfl;have f00:=HF1.out.f0 0 rfl;have c01:=HF1.out.c0 1 rfl;have f01:=HF1.out.f0 1 rfl
  go_wp2_with (fail)
  refine bodyPost_ret (v:=J #[Q #[.int C 0,.int C 0],K false]) (by simp[results,Tryz.results220,go_sem,c00,c01,z0,f00,f01]) rfl (RetWn.mkN HR.out ?_ ?_)
  focus
   refine ?zc
  rotate_left
  focus
   refine ?zf
 rotate_left 2
 focus
  have hx:Val (sq t.s) ⟨m,d⟩:=HVAL.out _ rfl
  have COM:=h_ fun(W:World)=>eY t.p t.c t.h m t.s d W hs1 hs6 hx
  have HR0:Hid (sec t.s other q=oneM (sq t.s) ⟨m,d⟩):=HSEC.out;have HF2:Hid (FrS t.S w (w1.alloc (F #[.int C m,.int C (d:Int)] 45)) [[.int C 0,.int C 0]]):=HF1.out.alloc _;have HI2:Hid (RaceI t (ownT T w 1) (w1.alloc (F #[.int C m,.int C (d:Int)] 45))):=HI1.out.alloc _;have e0:=HI1.out.tb 0 _ rfl;have e1:=HI1.out.tb 1 _ rfl;have e2:=HI1.out.tb 2 _ rfl;have e3:=HI1.out.tb 3 _ rfl;have hbt:=HI1.out.ltB;unfold exV
  simp only[Option.getD_some,Option.isSome_some]
  generalize oneM (sq t.s) ⟨m,d⟩=o1 at *
  rcases o1 with _|⟨m1,d1⟩
  focus
   have COM':Hid (∀W:World,Calls Tryz.prog 141 #[Q #[.int C t.p,.int C t.c,.int C t.h,.int C t.s],Q #[.int C m,.int C d]] W fun e w'=>e=I (J #[Q #[.int C 0,.int C 0],K false])/\Below W.heap.size W w'):=fun W=>COM.out W
   have HR:Hid (sec t.s other q=none):=HR0.out;clear COM HR0
   refine ?za
  rotate_left
  focus
   have COM':Hid (∀W:World,Calls Tryz.prog 141 #[Q #[.int C t.p,.int C t.c,.int C t.h,.int C t.s],Q #[.int C m,.int C d]] W fun e w'=>e=I (J #[Q #[.int C m1,.int C d1],K true])/\Below W.heap.size W w'):=fun W=>COM.out W
   have HR:Hid (sec t.s other q=some ⟨m1,d1⟩):=HR0.out;clear COM HR0
   refine ?zb
 rotate_left 2
 case' za|zb=>
  go_wp2_with (fail)
  first|refine am 8 (by kernel_rfl) (by kernel_rfl) ?_|refine an 8 (by kernel_rfl) (by kernel_rfl) ?_
  simp only[List.take_succ_cons,List.take_zero,List.drop_succ_cons,List.drop_zero]
  repeat (first|go_big_quiet_step ((go_at_call 141;exact more_call (COM'.out _)))|quiet_step ((go_at_call 141;exact more_call (COM'.out _))))
  refine wpQuiet_nil ?_
  intro _ hw'
  obtain⟨tr,hw''⟩:=hw';subst hw'';have HZ:=h_ (HF2.out.more tr);have HIz:=h_ (HI2.out.below (aa _ tr));clear HF2 HI2 e0 e1 e2 e3;generalize more (w1.alloc (F #[.int C m,.int C (d:Int)] 45)) tr=Z at *;have c00:=HZ.out.c0 0 rfl;have f00:=HZ.out.f0 0 rfl;have c01:=HZ.out.c0 1 rfl;have f01:=HZ.out.f0 1 rfl
  go_wp2_with (fail)
 case' za=>
  refine bodyPost_ret (v:=J #[Q #[.int C 0,.int C 0],K false]) (by simp[results,Tryz.results220,go_sem,c00,c01,f00,f01]) rfl (RetWn.mkN HR.out ?_ ?_)
  focus
   refine ?zd
  rotate_left
  focus
   refine ?zg
 case' zb=>
  refine bodyPost_ret (v:=J #[Q #[.int C m1,.int C d1],K true]) (by simp[results,Tryz.results220,go_sem,c00,c01,f00,f01]) rfl (RetWn.mkY HR.out ?_ ?_)
  focus
   refine ?ze
  rotate_left
  focus
   refine ?zh
 case zc|zd|ze=>
  refine RaceI.less (T:=ownT T w 1) ?_ (fun k hk=>.inl hk) HSUB.out
  repeat (first|exact HIz.out|refine RaceI.alloc ?_ _|refine RaceI.stored ?_ _ (bh 0 rfl (by omega)) HNS.out)
 case zf|zg|zh=>
  repeat (first|exact HZ.out.f|refine Frm.alloc ?_ _|refine Frm.ownSet ?_ (by omega) _)
open Go.RowKit Ps Ra Ex
theorem Mul64_hl(x:Nat)(y U:Int)(w:World)(hx:x<=1000000000000000000)(hy0:0<=y)(hy:y<=1000000000000000)(hU:(x:Int)*y=U):
  Calls Tryz.prog 150 #[.int .u64 x,.int .u64 y] w fun e w'=>e=I (J #[.int .u64 (hiW U),.int .u64 (loW U)])/\w=w':=by
 obtain⟨k,rfl⟩:=Int.eq_ofNat_of_zero_le hy0
 refine(Tryz.bits_Mul64 x k (by omega) (by omega) w).mono fun e w' ⟨he,hw⟩=>⟨?_,hw.symm⟩
 rw[he,<-hU];unfold hiW loW two64
 rw[Int.natCast_ediv,Int.natCast_emod,Int.natCast_mul];rfl
theorem hl_ne1{u v:Int}(h:u<v):((hiW u==hiW v)=true/\(loW u==loW v)=false/\decide (loW u<loW v)=true/\decide (hiW u<hiW v)=false)\/((hiW u==hiW v)=false/\decide (hiW u<hiW v)=true):=by
 rcases hl_lt h with h1|⟨h1,h2⟩
 ·right;simp;omega
 ·left;simp;omega
theorem hl_ne2{u v:Int}(h:v<u):((hiW u==hiW v)=true/\(loW u==loW v)=false/\decide (loW u<loW v)=false/\decide (hiW u<hiW v)=false)\/((hiW u==hiW v)=false/\decide (hiW u<hiW v)=false):=by
 rcases hl_lt h with h1|⟨h1,h2⟩
 ·right;simp;omega
 ·left;simp;omega
theorem cR(p c h xn yn:Int)(s xd yd:Nat)(w:World)(hs1:1<=s)(hs6:s<=6)(hx:Val (sq s) ⟨xn,xd⟩)(hy:Val (sq s) ⟨yn,yd⟩):
  Calls Tryz.prog 78 #[Q #[.int C p,.int C c,.int C h,.int C s],Q #[.int C xn,.int C xd],Q #[.int C yn,.int C yd]] w fun e w'=>e=I (.int C (cmpE (sq s) ⟨xn,xd⟩ ⟨yn,yd⟩))/\Below w.heap.size w w':=by
 obtain⟨hq1,-,_⟩:=sq_bd hs1 hs6;have hxd:xd<50:=bO hq1 hx;have hyd:yd<50:=bO hq1 hy;have hx1: -1000000000000000000<=xn:=hx.1;have hx2:xn<=1000000000000000000:=hx.2.1;have hy1: -1000000000000000000<=yn:=hy.1;have hy2:yn<=1000000000000000000:=hy.2.1;have px:=az hq1 xd;have py:=az hq1 yd;have px2:pw (sq s) xd<=1000000000000000:=hx.2.2.1;have py2:pw (sq s) yd<=1000000000000000:=hy.2.2.1
 have CX:Hid (∀W:World,Calls Tryz.prog 149 #[Q #[.int C p,.int C c,.int C h,.int C s],.int C xd] W fun e w'=>e=I (J #[.int C (pw (sq s) xd),K true])/\Below W.heap.size W w'):=fun W=>by
  have:=ey p c h s xd W hs1 hs6 (by omega)
  rwa [(aW px2).1,(aW px2).2]at this
 have CY:Hid (∀W:World,Calls Tryz.prog 149 #[Q #[.int C p,.int C c,.int C h,.int C s],.int C yd] W fun e w'=>e=I (J #[.int C (pw (sq s) yd),K true])/\Below W.heap.size W w'):=fun W=>by
  have:=ey p c h s yd W hs1 hs6 (by omega)
  rwa [(aW py2).1,(aW py2).2]at this
 obtain⟨U,hU⟩:∃U,(xn.natAbs:Int)*pw (sq s) yd=U:=⟨_,rfl⟩;obtain⟨V,hV⟩:∃V,(yn.natAbs:Int)*pw (sq s) xd=V:=⟨_,rfl⟩
 have MX:=h_ fun(W:World)=>Mul64_hl xn.natAbs (pw (sq s) yd) U W (by omega) (by omega) py2 hU
 have MY:=h_ fun(W:World)=>Mul64_hl yn.natAbs (pw (sq s) xd) V W (by omega) (by omega) px2 hV
 have HU:Hid (crs (sq s) ⟨xn,xd⟩ ⟨yn,yd⟩=U):=hU;have HVV:Hid (crs (sq s) ⟨yn,yd⟩ ⟨xn,xd⟩=V):=hV;clear hU hV hx hy
 have HB:Hid (Below w.heap.size w (((w.alloc (F #[.int C p,.int C c,.int C h,.int C s] 33)).alloc (F #[.int C xn,.int C xd] 45)).alloc (F #[.int C yn,.int C yd] 45))):=
  alw (alw ((Below.refl _ _).alloc (Nat.le_refl _) _) (Nat.le_refl _)) (Nat.le_refl _)
 by_cases h1:xn<0
 focus
  by_cases h2:yn<0
  focus
   rcases Int.lt_trichotomy U V with hlt|heq|hgt
   focus
    have HC:Hid (cmpE (sq s) ⟨xn,xd⟩ ⟨yn,yd⟩=_):=cmp_nn_lt (by rw[HU.out,HVV.out];exact hlt) (by assumption) (by assumption)
    rcases(hl_ne1 hlt)with⟨b1,b2,b3,b4⟩|⟨b1,b4⟩
    focus
     refine ?zc
    rotate_left
    focus
     refine ?zd
   rotate_left 2
   focus
    have HC:Hid (cmpE (sq s) ⟨xn,xd⟩ ⟨yn,yd⟩=0):=cmp_same (by rw[HU.out,HVV.out];exact heq) (.inl ⟨h1,h2⟩)
    refine ?za
   rotate_left
   focus
    have HC:Hid (cmpE (sq s) ⟨xn,xd⟩ ⟨yn,yd⟩=_):=cmp_nn_gt (by rw[HU.out,HVV.out];exact hgt) (by assumption) (by assumption)
    rcases(hl_ne2 hgt)with⟨b1,b2,b3,b4⟩|⟨b1,b4⟩
    focus
     refine ?ze
    rotate_left
    focus
     refine ?zf
  rotate_left 5
  ·have HC:Hid (cmpE (sq s) ⟨xn,xd⟩ ⟨yn,yd⟩ = -1):=cmp_np hq1 h1 (by show 0<=yn;omega)
   go_enter Tryz.func78,Tryz.ntmps78
   go_wp2_with (fail)
   go_ret
   exact⟨by rw[HC.out];rfl,HB.out⟩
 rotate_left 5
 focus
  by_cases h2:yn<0
  ·have HC:Hid (cmpE (sq s) ⟨xn,xd⟩ ⟨yn,yd⟩=1):=cmp_pn hq1 (by show 0<=xn;omega) h2
   go_enter Tryz.func78,Tryz.ntmps78
   go_wp2_with (fail)
   go_ret
   exact⟨by rw[HC.out];rfl,HB.out⟩
  focus
   have h3:0<=xn:=by omega
   have h4:0<=yn:=by omega
   rcases Int.lt_trichotomy U V with hlt|heq|hgt
   focus
    have HC:Hid (cmpE (sq s) ⟨xn,xd⟩ ⟨yn,yd⟩=_):=cmp_pp_lt (by rw[HU.out,HVV.out];exact hlt) (by assumption) (by assumption)
    rcases(hl_ne1 hlt)with⟨b1,b2,b3,b4⟩|⟨b1,b4⟩
    focus
     refine ?zg
    rotate_left
    focus
     refine ?zh
   rotate_left 2
   focus
    have HC:Hid (cmpE (sq s) ⟨xn,xd⟩ ⟨yn,yd⟩=0):=cmp_same (by rw[HU.out,HVV.out];exact heq) (.inr ⟨h3,h4⟩)
    refine ?zb
   rotate_left
   focus
    have HC:Hid (cmpE (sq s) ⟨xn,xd⟩ ⟨yn,yd⟩=_):=cmp_pp_gt (by rw[HU.out,HVV.out];exact hgt) (by assumption) (by assumption)
    rcases(hl_ne2 hgt)with⟨b1,b2,b3,b4⟩|⟨b1,b4⟩
    focus
     refine ?zi
    rotate_left
    focus
     refine ?zj
 rotate_left 5
 case' zc|zd|ze|zf|zg|zh|zi|zj=>
  generalize hiW U=u1 at *;generalize hiW V=v1 at *;generalize loW U=u2 at *;generalize loW V=v2 at *
 case' za|zb=>
  have b1:(hiW U==hiW V)=true:=by simp[heq]
  have b2:(loW U==loW V)=true:=by simp[heq]
  clear heq;generalize hiW U=u1 at *;generalize hiW V=v1 at *;generalize loW U=u2 at *;generalize loW V=v2 at *
 case za|zb|zc|zd|ze|zf|zg|zh|zi|zj=>
  go_enter Tryz.func78,Tryz.ntmps78
  go_wp2_with (first|(go_at_call 149;first|((with_reducible refine(more_call (CX.out _)).mono ?_);rintro e w' ⟨rfl,t2,rfl⟩)|((with_reducible refine(more_first (CY.out _)).mono ?_);rintro e w' ⟨rfl,t,rfl⟩))|(go_at_call 151;refine(absolute_any _ _ (by omega) (by omega)).mono ?_;rintro e w' ⟨rfl,rfl⟩)|(go_at_call 150;first|((with_reducible refine(MX.out _).mono ?_);rintro e w' ⟨rfl,rfl⟩)|((with_reducible refine(MY.out _).mono ?_);rintro e w' ⟨rfl,rfl⟩)))
  go_ret
  exact⟨by rw[HC.out];rfl,blw HB.out (Nat.le_refl _)⟩
theorem ko{B:Int}(hB:1<=B){f:List Int->Option E}(hf:∀q x,f q=some x->Val B x){l:List (List Int)}:∀{t:Nat×Nat×E},bestS B f l=some t->Val B t.2.2:=by
 induction l using bj with
 |nil=>intro t h;rw[fm]at h;injection h with h;subst h;exact gv
 |snoc l q ih=>
  intro t h
  rw[bY]at h
  rcases hs:bestS B f l with _|u
  ·rw[hs]at h;cases h
  ·rw[hs]at h
   rcases hq:f q with _|x
   ·rw[hq]at h;cases h
   ·rw[hq]at h
    simp only[Option.bind_some,Option.map_some,Option.some.injEq]at h
    subst h
    split
    ·exact hf q x hq
    ·exact ih (t:=u) hs
theorem jO{n c a b:Nat}{p:List Int}(ha:1<=a)(hb:1<=b)(hp:PosP n c p)(hn:n<=24):(resultsL p a b).length<=663552:=by
 rw[<-iW ha hb hp]
 have h1:=bT ((dice a b).flatMap fun ds=>rowL ds [p])
 have h2:=gN hn hp (l:=dice a b) fun ds hds=>⟨(fL ha hb ds hds).1,mz.2 ds hds⟩
 have h3:=(mz (a:=a) (b:=b)).1;unfold rowsF at h2
 omega
theorem ll{B:Int}{f:List Int->Option E}{l:List (List Int)}{k:Nat}(hk:k<l.length){t:Nat×Nat×E}(hs:bestS B f (l.take k)=some t)(hq:f (l.getD k [])=none):bestS B f l=none:=by
 have h1:bestS B f (l.take (k+1))=none:=by rw[aE l [] hk,bY,hs,hq];rfl
 have:=bestS_none (k:=l.drop (k+1)) h1
 rwa [List.take_append_drop]at this
theorem bestS_go{B:Int}{f:List Int->Option E}{l:List (List Int)}{k a:Nat}{m x:E}(hk:k<l.length)(hs:bestS B f (l.take k)=some (k,a,m))(hq:f (l.getD k [])=some x)(h:k=0\/ltE B m x=true):
  bestS B f (l.take (k+1))=some (k+1,k,x):=by
 rw[aE l [] hk,bY,hs,hq]
 simp[h]
theorem lm{B:Int}{f:List Int->Option E}{l:List (List Int)}{k a:Nat}{m x:E}(hk:k<l.length)(hs:bestS B f (l.take k)=some (k,a,m))(hq:f (l.getD k [])=some x)(h0:k≠0)(h:ltE B m x=false):
  bestS B f (l.take (k+1))=some (k+1,a,m):=by
 rw[aE l [] hk,bY,hs,hq]
 simp[h0,h]
def BestV(T:Nat->Prop)(w:World)(h k a:Nat)(l:List (List Int))(v:Value):Prop:=
 (k=0/\v=D none 0 0)\/(0<k/\∃b off c,v=D (some ⟨b,off,none⟩) h c/\h<=c/\SQ T w (some ⟨b,off,none⟩) h (l.getD a []))
theorem BestV.frm{T:Nat->Prop}{w w':World}{h k a:Nat}{l:List (List Int)}{v:Value}(hb:BestV T w h k a l v)(hf:Frm T w w'):BestV T w' h k a l v:=
 hb.imp id fun⟨h0,b,off,c,h1,h2,h3⟩=>⟨h0,b,off,c,h1,h2,h3.frm hf⟩
def RetBest(t:RT)(T:Nat->Prop)(w:World)(l:List (List Int))(o:Option (Nat×Nat×E))(e:Ending)(w':World):Prop:=
 RaceI t T w'/\Frm t.S w w'/\match o with
  |none=>e=I (J #[D none 0 0,Q #[.int C 0,.int C 0],K false])
  |some (k,a,x)=>∃v,e=I (J #[v,Q #[.int C x.num,.int C (x.depth:Int)],K true])/\BestV T w' t.h k a l v
theorem frmT{t:RT}{T:Nat->Prop}{w w':World}(h:Frm t.S w w')(hs:∀k,t.S k->T k):Frm T w w':=h.mono hs
def BestI(t:RT)(T:Nat->Prop)(w:World)(A:Option Addr)(n:Nat)(l:List (List Int))(k a:Nat)(x:E)(v:Value)(wr:World):Prop:=
 FrS t.S w wr [[.int C 0,.int C 0],[.int C x.num,.int C (x.depth:Int)]]/\RaceI t (ownT T w 2) wr/\PL (ownT T w 2) wr A n l/\BestV (ownT T w 2) wr t.h k a l v
theorem best_any(t:RT)(ht:t.Ok){own other:List Int}(hq:PosP t.h t.c own)(hs0:own.sum≠0)(i a b:Nat)(hi:i<t.nr)(hab:(ah t.s).getD i (0,0)=(a,b))(hsec:∀q∈resultsL own a b,SecC t q other)
  (T:Nat->Prop) (A B:Option Addr) (ca cb:Nat) (w:World) (hT:∀k,w.heap.size<=k->¬T k) (hI:RaceI t T w) (hA:SQ T w A t.h own) (hca:t.h<=ca) (hB:SQ T w B t.h other) (hcb:t.h<=cb):
  Calls Tryz.prog 202 #[.pointer (some ⟨t.bt,0,none⟩),D A t.h ca,D B t.h cb,.int C (i:Int)] w (RetBest t T w (resultsL own a b) (bestS (sq t.s) (sec t.s other) (resultsL own a b))):=by
 have hv:=aA ht.v
 have hs1:1<=t.s:=by omega
 have hs6:t.s<=6:=by omega
 have hh24:t.h<=24:=by omega
 have hh1:0<t.h:=by omega
 obtain⟨hq1,-,_⟩:=sq_bd hs1 hs6;have hlow:=hI.ltS;have HSUB:=h_ hI.sub
 have HNS:Hid (∀j,¬t.S (w.heap.size+j)):=fun j h=>by have:=hlow _ h;omega
 have hr:=bB.1 (ak (ah t.s) (0,0) (k:=i) (by rw[ht.r];exact hi))
 rw[hab]at hr;obtain⟨r1,r2,r3⟩:=hr
 simp only at r1 r2 r3
 have HRP:Hid (∀q∈resultsL own a b,PosP t.h t.c q):=fun q h=>(bf (by omega) r1 hq q h).1
 have HF0:Hid (FrS t.S w ((w.alloc (F #[.int C 0,.int C 0] 45)).alloc (F #[.int C 0,.int C 0] 45)) [[.int C 0,.int C 0],[.int C 0,.int C 0]]):=((FrS.start w hlow).allocT (by simp) _ _).allocT (by simp) _ _
 have hb0:Below w.heap.size w ((w.alloc (F #[.int C 0,.int C 0] 45)).alloc (F #[.int C 0,.int C 0] 45)):=((Below.refl _ _).alloc (Nat.le_refl _) _).alloc (by simp) _
 have CRS:=h_ (lU t ht (ownT T w 2) A ca own _ (dC hT (by simp)) ((hI.wide 2).below hb0) ((hA.wide 2).below hb0) hca hq)
 have HB0:Hid (SQ (ownT T w 2) ((w.alloc (F #[.int C 0,.int C 0] 45)).alloc (F #[.int C 0,.int C 0] 45)) B t.h other):=(hB.wide 2).below hb0
 have HTN:Hid (∀W:World,w.heap.size+2<=W.heap.size->∀k,W.heap.size<=k->¬ownT T w 2 k):=fun W hz=>dC hT hz
 have HSEC:=h_ hsec
 have HGET:Hid ((rsl t.s own).getD i []=resultsL own a b):=by
  unfold Hid rsl
  rw[getD_map _ _ (0,0) _ (by rw[ht.r];exact hi),hab]
 have HSV:=h_ fun(q:List Int) (x:E) (h:sec t.s other q=some x)=>sec_val hq1 h
 have HRN:=h_ (rsl_len t.s own);have HR:=h_ ht.r
 have hnr21:t.nr<=21:=by rw[<-ht.r];exact cL hs6
 have hlen:(resultsL own a b).length<=1000000:=Nat.le_trans (jO (by omega) r1 hq hh24) (by omega)
 have HLEN:=h_ hlen
 have hii:(i:Int)<(t.nr:Int):=by omega
 have hii0:(0:Int)<=(i:Int):=by omega
 have HNE:=h_ (iX (by omega:1<=a) r1 hq)
 clear hT hI hA hB hv hlow hb0 hq hsec hab r1 r2 r3 hlen;generalize resultsL own a b=L at *;generalize hTT:ownT T w 2=T' at *
 go_enter Tryz.func202,Tryz.ntmps202
 go_wp2_with (fail)
 refine CRS.out.mono ?_
 rintro e w1 ⟨u,rfl,⟨Au,nu,cu,rfl,hrs,hcu⟩,hI1,hf1⟩
 have hnu:nu=t.nr:=by rw[<-hrs.1,HRN.out,HR.out]
 subst hnu
 obtain⟨bu,ou,rfl,hzu,_,hcc⟩:=hrs.2 (by omega)
 obtain⟨Al,nl,cl,hcell,hpl,hcl⟩:=hcc i hi;rw[HGET.out]at hpl;have hnl:=hpl.len;have HNL:=h_ hnl
 have hnl6:nl<=1000000:=by rw[<-hnl];exact HLEN.out
 have hf01:=HF0.out.frm hf1
 have HST:Hid (BestI t T w Al nl L 0 0 ⟨0,0⟩ (D none 0 0) w1):=by
  unfold Hid BestI;rw[hTT]
  exact⟨hf01,hI1,hpl,.inl ⟨rfl,rfl⟩⟩
 have HB1:Hid (SQ T' w1 B t.h other):=HB0.out.frm (frmT hf1 hI1.sub);have HTT:=h_ hTT;have HS1:=h_ hI1.sub;clear hrs hcc hI1 hf1 hpl hf01 hnl CRS HF0 HB0 hTT
 go_wp2_with (fail)
 go_loopw [11,24] (fun v11 v24 wr=>∃(k a:Nat) (xn:Int) (xd:Nat),k<=nl/\v24= .int C k/\Hid (bestS (sq t.s) (sec t.s other) (L.take k)=some (k,a,⟨xn,xd⟩))/\(∃vx,vx=v11/\Hid (BestI t T w Al nl L k a ⟨xn,xd⟩ vx wr))/\Hid (Frm T' w1 wr)) (fun _ v24 _=>nl-(intOf v24).toNat)
 case atStart=>exact⟨0,0,0,0,by omega,rfl,rfl,⟨_,rfl,HST.out⟩,Frm.refl _ _⟩
 case round=>
  clear HST hcell hcl hzu;obtain⟨k,at',xn,xd,hk,rfl,hbs,⟨vx,rfl,hBI⟩,hfw⟩:=hrel;obtain⟨hF,hIr,hPLr,hBV⟩:=hBI.out;have HF:=h_ hF;rw[HTT.out]at hIr hPLr hBV;have HI:=h_ hIr;have HPL:=h_ hPLr;have HBV:=h_ hBV;clear hF hIr hPLr hBV hBI
  by_cases hlt:k<nl
  focus
   have hki:(k:Int)<(nl:Int):=by omega
   obtain⟨bl,ol,Bq,mq,cq,rfl,hzl,hcq,hsq,hmq⟩:=HPL.out.at hlt
   have hqp:=HRP.out _ (ak L [] (by rw[HNL.out];exact hlt))
   have hmh:t.h=mq:=by rw[<-hsq.1.1];exact hqp.1.symm
   subst hmh;obtain⟨bq,oq,rfl,_,_⟩:=hsq.1.2 hh1
   have hzr:w.heap.size+2<=wr.heap.size:=by have:=HF.out.z;simpa using this
   have CSEC:=h_ (HSEC.out _ (ak L [] (by rw[HNL.out];exact hlt)) T' (some ⟨bq,oq,none⟩) B cq cb wr (HTN.out wr hzr) HI.out hsq hmq (HB1.out.frm hfw.out) hcb)
   have HSQ:=h_ hsq
   have HLL:Hid (k<L.length):=by unfold Hid;rw[HNL.out];exact hlt
   rcases hso:sec t.s other (L.getD k [])with _|⟨yn,yd⟩
   focus
    have HR:Hid (bestS (sq t.s) (sec t.s other) L=none):=ll HLL.out hbs.out hso
    refine ?zf
   rotate_left
   focus
    have HYV:Hid (Val (sq t.s) ⟨yn,yd⟩):=HSV.out _ _ hso
    have HXV:Hid (Val (sq t.s) ⟨xn,xd⟩):=ko hq1 HSV.out hbs.out;have HSO:=h_ hso
    have HGO:Hid (k=0\/ltE (sq t.s) ⟨xn,xd⟩ ⟨yn,yd⟩=true->bestS (sq t.s) (sec t.s other) (L.take (k+1))=some (k+1,k,⟨yn,yd⟩)):=fun h=>bestS_go HLL.out hbs.out hso h
    have HKP:Hid (k≠0->ltE (sq t.s) ⟨xn,xd⟩ ⟨yn,yd⟩=false->bestS (sq t.s) (sec t.s other) (L.take (k+1))=some (k+1,at',⟨xn,xd⟩)):=fun h1 h2=>lm HLL.out hbs.out hso h1 h2
    refine ?ze
  rotate_left 2
  focus
   have hke:k=nl:=by omega
   have HR:Hid (bestS (sq t.s) (sec t.s other) L=some (k,at',⟨xn,xd⟩)):=by
    have h:=hbs.out
    rwa [List.take_of_length_le (by rw[HNL.out];omega)]at h
   have z1:=HF.out.l1 (by simp)
   have c10:=HF.out.c1 0 rfl;have c11:=HF.out.c1 1 rfl
   refine ?zd
  rotate_left
  case' ze|zf=>
   rw[hso]at CSEC;clear hqp hsq hso
   go_wp2_with (fail)
   refine CSEC.out.mono ?_
   rintro e w2 ⟨rfl,hI2,hf2⟩
  case' ze=>
   have HF2:Hid (FrS t.S w (w2.alloc (F #[.int C yn,.int C (yd:Int)] 45)) [[.int C 0,.int C 0],[.int C xn,.int C (xd:Int)]]):=(HF.out.frm hf2).alloc _;have HI2:Hid (RaceI t T' (w2.alloc (F #[.int C yn,.int C (yd:Int)] 45))):=hI2.alloc _;have hfT:Frm T' wr (w2.alloc (F #[.int C yn,.int C (yd:Int)] 45)):=(frmT hf2 HS1.out).alloc _;have HPL2:=h_ (HPL.out.frm hfT);have HBV2:=h_ (HBV.out.frm hfT);have HSQ2:=h_ (HSQ.out.frm hfT);have HFW2:Hid (Frm T' w1 (w2.alloc (F #[.int C yn,.int C (yd:Int)] 45))):=(hfw.out.trans (frmT hf2 HS1.out)).alloc _
   have g0:(w2.alloc (F #[.int C yn,.int C (yd:Int)] 45)).cell? ⟨w2.heap.size,0,none⟩=some (.int C yn):=by simp[go_sem]
   have g1:(w2.alloc (F #[.int C yn,.int C (yd:Int)] 45)).cell? ⟨w2.heap.size,1,none⟩=some (.int C (yd:Int)):=by simp[go_sem]
   have gz:w2.heap.size<(w2.alloc (F #[.int C yn,.int C (yd:Int)] 45)).heap.size:=by simp
   unfold exV
   simp only[Option.getD_some,Option.isSome_some]
   clear hI2 hf2 hfT HF HI HPL HBV HSQ CSEC hzr;have e0:=HI2.out.tb 0 _ rfl;have e1:=HI2.out.tb 1 _ rfl;have e2:=HI2.out.tb 2 _ rfl;have e3:=HI2.out.tb 3 _ rfl;have hbt:=HI2.out.ltB
   by_cases hk0:k=0
   focus
    have hvx:vx=D none 0 0:=by
     rcases HBV2.out with⟨_,h⟩|⟨h,_⟩
     ·exact h
     ·omega
    have HR:=h_ (HGO.out (.inl hk0));subst hvx
    have hnil:∀W:World,(binOp .eql 24 (D none 0 0) (D none 0 0)).run Tryz.prog W= .ok (K true) W:=fun W=>Lib.run_eql_slice_nil (P:=Tryz.prog) W 24 2 none 0 0 0 0 Tryz.underlying24
    clear hk0 HGO HKP
    refine ?zg
   rotate_left
   focus
    obtain⟨bv,ov,cv,hvx,-⟩:∃b off c,vx=D (some ⟨b,off,none⟩) t.h c/\t.h<=c/\SQ T' (w2.alloc (F #[.int C yn,.int C (yd:Int)] 45)) (some ⟨b,off,none⟩) t.h (L.getD at' []):=by
     rcases HBV2.out with⟨h,_⟩|⟨_,h⟩
     ·exact absurd h hk0
     ·exact h
    subst hvx
    have hnil:∀W:World,(binOp .eql 24 (D (some ⟨bv,ov,none⟩) t.h cv) (D none 0 0)).run Tryz.prog W= .ok (K false) W:=fun W=>Lib.run_eql_slice_nil (P:=Tryz.prog) W 24 2 (some ⟨bv,ov,none⟩) t.h cv 0 0 Tryz.underlying24
    have COMP:=h_ fun(W:World)=>cR t.p t.c t.h yn xn t.s yd xd W hs1 hs6 HYV.out HXV.out
    have HCS:Hid ((0<cmpE (sq t.s) ⟨yn,yd⟩ ⟨xn,xd⟩)=(ltE (sq t.s) ⟨xn,xd⟩ ⟨yn,yd⟩=true)):=cmp_swap;have hcb1:=cmp_bd (sq t.s) ⟨yn,yd⟩ ⟨xn,xd⟩;generalize cmpE (sq t.s) ⟨yn,yd⟩ ⟨xn,xd⟩=cm at *
    by_cases hcm:0<cm
    focus
     have HR:=h_ (HGO.out (.inr (by rw[<-HCS.out];exact hcm)))
     refine ?zb
    rotate_left
    focus
     have HR:=h_ (HKP.out hk0 (by
      cases hl:ltE (sq t.s) ⟨xn,xd⟩ ⟨yn,yd⟩with
      |false=>rfl
      |true=>exact absurd (by rw[HCS.out];exact hl) hcm))
     refine ?zc
  case zf=>
   have HF2:=h_ (HF.out.frm hf2);have HI2:=h_ hI2;unfold exV
   simp only[Option.getD_none,Option.isSome_none]
   clear hI2 hf2 HF HI HPL HBV HSQ CSEC
   have z0:=HF2.out.l0 (by simp)
   have c00:=HF2.out.c0 0 rfl;have f00:=HF2.out.f0 0 rfl;have c01:=HF2.out.c0 1 rfl;have f01:=HF2.out.f0 1 rfl
   go_wp2_with (fail)
   refine bodyPost_ret (v:=J #[D none 0 0,Q #[.int C 0,.int C 0],K false]) (by simp[results,Tryz.results202,go_sem,c00,c01,z0,f00,f01]) rfl ?_
   rw[HR.out]
   refine⟨?_,?_,rfl⟩
   ·refine RaceI.less (T:=T') ?_ (fun k hk=>by rw[<- HTT.out];exact .inl hk) HSUB.out
    repeat (first|exact HI2.out|refine RaceI.alloc ?_ _|refine RaceI.stored ?_ _ (by rw[<-HTT.out];exact bh 0 rfl (by omega)) (HNS.out 0))
   ·repeat (first|exact HF2.out.f|refine Frm.alloc ?_ _|refine Frm.ownSet ?_ (by omega) _)
  case' zb|zc=>
   clear HGO HKP
  case' zg|zb|zc=>
   go_wp2_with (fail)
   generalize w2.alloc (F #[.int C yn,.int C (yd:Int)] 45)=W2 at *
  case' zg=>
   first|refine ag (by kernel_rfl) (by kernel_rfl) ?_|refine ae (by kernel_rfl) (by kernel_rfl) ?_
   repeat (first|go_big_quiet_step (fail)|quiet_step (fail))
   refine wpQuiet_nil ?_
   intro _ hw'
   obtain⟨tr,hw''⟩:=hw';subst hw'';have HF3:=h_ (HF2.out.more tr);have HI3:=h_ (HI2.out.below (aa _ tr));have HPL3:=h_ (HPL2.out.below (aa _ tr));have HBV3:=h_ (HBV2.out.frm (Frm.of_below' _ (aa _ tr)));have HSQ3:=h_ (HSQ2.out.below (aa _ tr));have HFW3:=h_ (HFW2.out.trans (Frm.of_below' _ (aa _ tr)));have k0:=ac g0 (aa _ tr);have k1:=ac g1 (aa _ tr);have kz:=Nat.lt_of_lt_of_le gz (ai _ tr);clear HF2 HI2 HPL2 HBV2 HSQ2 HFW2 g0 g1 gz e0 e1 e2 e3 hbt;generalize more W2 tr=Z at *
  case' zb|zc=>
   have z1:=HF2.out.l1 (by simp)
   have c10:=HF2.out.c1 0 rfl;have c11:=HF2.out.c1 1 rfl
   first|refine ag (by kernel_rfl) (by kernel_rfl) ?_|refine ae (by kernel_rfl) (by kernel_rfl) ?_
   repeat (first|go_big_quiet_step ((go_at_call 78;exact more_call (COMP.out _)))|quiet_step ((go_at_call 78;exact more_call (COMP.out _))))
   refine wpQuiet_nil ?_
   intro _ hw'
   obtain⟨tr,hw''⟩:=hw';subst hw'';clear z1 c10 c11;have HF3:=h_ (HF2.out.more tr);have HI3:=h_ (HI2.out.below (aa _ tr));have HPL3:=h_ (HPL2.out.below (aa _ tr));have HBV3:=h_ (HBV2.out.frm (Frm.of_below' _ (aa _ tr)));have HSQ3:=h_ (HSQ2.out.below (aa _ tr));have HFW3:=h_ (HFW2.out.trans (Frm.of_below' _ (aa _ tr)));have k0:=ac g0 (aa _ tr);have k1:=ac g1 (aa _ tr);have kz:=Nat.lt_of_lt_of_le gz (ai _ tr);clear HF2 HI2 HPL2 HBV2 HSQ2 HFW2 g0 g1 gz e0 e1 e2 e3 hbt;generalize more W2 tr=Z at *
  case zc=>
   have HBI:Hid (BestI t T w (some ⟨bl,ol,none⟩) nl L (k+1) at' ⟨xn,xd⟩ (D (some ⟨bv,ov,none⟩) t.h cv) Z):=by
    refine⟨HF3.out,?_,?_,?_⟩
    ·rw[HTT.out];exact HI3.out
    ·rw[HTT.out];exact HPL3.out
    ·rw[HTT.out]
     rcases HBV3.out with⟨h,_⟩|⟨_,h⟩
     ·exact absurd h hk0
     ·exact .inr ⟨by omega,h⟩
   go_wp2_with (fail)
   go_roundw
   case rel=>exact⟨k+1,at',xn,xd,by omega,by go_num,HR.out,⟨_,rfl,HBI.out⟩,HFW3.out⟩
   case measure=>(simp[intOf])<;>omega
  case' zd|zg|zb=>
   go_wp2_with (fail)
   first|refine am 3 (by kernel_rfl) (by kernel_rfl) ?_|refine an 3 (by kernel_rfl) (by kernel_rfl) ?_
   simp only[List.take_succ_cons,List.take_zero,List.drop_succ_cons,List.drop_zero]
   repeat (first|go_big_quiet_step (fail)|quiet_step (fail))
   refine wpQuiet_nil ?_
   intro _ hw'
  case zd=>
   obtain⟨tr,hw''⟩:=hw';subst hw'';clear z1 c10 c11;have HF2:=h_ (HF.out.more tr);have HI2:=h_ (HI.out.below (aa _ tr));have HBV2:=h_ (HBV.out.frm (Frm.of_below' _ (aa _ tr)));clear HF HI HPL HBV hfw;generalize more wr tr=Y at *;have c00:=HF2.out.c0 0 rfl;have f00:=HF2.out.f0 0 rfl;have c01:=HF2.out.c0 1 rfl;have f01:=HF2.out.f0 1 rfl
   go_wp2_with (fail)
   refine bodyPost_ret (v:=J #[vx,Q #[.int C xn,.int C (xd:Int)],K true]) (by simp[results,Tryz.results202,go_sem,c00,c01,f00,f01]) rfl ?_
   rw[HR.out]
   have hTb:T' w.heap.size:=by rw[<-HTT.out];exact bh 0 rfl (by omega)
   have hfo:∀(X:World) (j:Nat) (v:Value),Frm T' X (X.setCell ⟨w.heap.size,j,none⟩ v):=fun X j v=>(Frm.set X w.heap.size j v).mono fun x hx=>by rw[hx];exact hTb
   refine⟨?_,?_,vx,rfl,?_⟩
   ·refine RaceI.less (T:=T') ?_ (fun k hk=>by rw[<- HTT.out];exact .inl hk) HSUB.out
    repeat (first|exact HI2.out|refine RaceI.alloc ?_ _|refine RaceI.stored ?_ _ hTb (HNS.out 0))
   ·repeat (first|exact HF2.out.f|refine Frm.alloc ?_ _|refine Frm.ownSet ?_ (by omega) _)
   ·have h:=(HBV2.out.frm (hfo _ 0 (.int C xn))).frm (hfo _ 1 (.int C (xd:Int)))
    exact h.imp id fun⟨h0,b,off,c,h1,h2,h3⟩=>⟨h0,b,off,c,h1,h2,h3.less fun k hk=>by rw[<-HTT.out];exact .inl hk⟩
  case zg|zb=>
   obtain⟨tr2,hw''⟩:=hw';subst hw'';have HF4:=h_ (HF3.out.more tr2);have HI4:=h_ (HI3.out.below (aa _ tr2));have HPL4:=h_ (HPL3.out.below (aa _ tr2));have HSQ4:=h_ (HSQ3.out.below (aa _ tr2));have HFW4:=h_ (HFW3.out.trans (Frm.of_below' _ (aa _ tr2)));clear HF3 HI3 HPL3 HBV3 HSQ3 HFW3 k0 k1 kz;generalize more Z tr2=Y at *;have c10:=HF4.out.c1 0 rfl;have f10:=HF4.out.f1 0 rfl;have c11:=HF4.out.c1 1 rfl;have f11:=HF4.out.f1 1 rfl
   go_wp2_with (fail)
   clear c10 f10 c11 f11
   have hTb:T' (w.heap.size+1):=by rw[<-HTT.out];exact bh 1 rfl (by omega)
   have hfo:∀(X:World) (j:Nat) (v:Value),Frm T' X (X.setCell ⟨w.heap.size+1,j,none⟩ v):=fun X j v=>(Frm.set X (w.heap.size+1) j v).mono fun x hx=>by rw[hx];exact hTb
   have HBI:Hid (BestI t T w (some ⟨bl,ol,none⟩) nl L (k+1) k ⟨yn,yd⟩ (D (some ⟨bq,oq,none⟩) t.h cq) ((Y.setCell ⟨w.heap.size+1,0,none⟩ (.int C yn)).setCell ⟨w.heap.size+1,1,none⟩ (.int C (yd:Int)))):=by
    refine⟨(HF4.out.set 1 0 rfl rfl _).set 1 1 rfl rfl _,?_,?_,?_⟩
    ·rw[HTT.out];exact(HI4.out.stored _ hTb (HNS.out 1)).stored _ hTb (HNS.out 1)
    ·rw[HTT.out];exact(HPL4.out.frm (hfo _ _ _)).frm (hfo _ _ _)
    ·rw[HTT.out];exact .inr ⟨by omega,bq,oq,cq,rfl,hmq,(HSQ4.out.frm (hfo _ _ _)).frm (hfo _ _ _)⟩
   have HFW5:Hid (Frm T' w1 ((Y.setCell ⟨w.heap.size+1,0,none⟩ (.int C yn)).setCell ⟨w.heap.size+1,1,none⟩ (.int C (yd:Int)))):=(HFW4.out.trans (hfo _ _ _)).trans (hfo _ _ _);clear hTb hfo
   go_roundw
   case rel=>exact⟨k+1,k,yn,yd,by omega,by go_num,HR.out,⟨_,rfl,HBI.out⟩,HFW5.out⟩
   case measure=>(simp[intOf])<;>omega
end Go.Proofs.YtcmeoenkgmghkaaGreat

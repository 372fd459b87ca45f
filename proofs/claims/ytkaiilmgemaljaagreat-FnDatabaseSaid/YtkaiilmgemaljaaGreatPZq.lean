/- Joined texts of one proof: N38, N39. Each part tells what it shows. There are no conditions. -/
import Derived.Test.YtkaiilmgemaljaaGreatPZo
import Derived.Test.YtkaiilmgemaljaaGreatPN13
set_option linter.unusedVariables false
set_option linter.unusedSimpArgs false
/- Contract of a win chance's computation, out of the program's race table. There are no conditions. -/
namespace Go.Proofs.YtkaiilmgemaljaaGreat
open Go.RowKit Ps Ra Ex Go.Maps
theorem Tryz.infoE:(Tryz.prog.info? 35).map (fun i=>(i.zero,i.size,i.bytes))=some (some (.agg #[.int .i64 0,.int .i64 0]),2,16):=by kernel_rfl
theorem allS_val {B:Int} {g:Nat×Nat→Option E} (hg:∀r x,g r=some x→Val B x) {l:List (Nat×Nat)}:∀{xs:List E},allS g l=some xs→∀x∈xs,Val B x:=by
 induction l using snoc_ind with
 | nil=>intro xs h x hx;unfold allS at h;simp at h;subst h;simp at hx
 | snoc l r ih =>
   intro xs h x hx
   rw [allS_snoc] at h
   cases hs : allS g l with
   | none => rw [hs] at h; cases h
   | some u =>
     rw [hs] at h
     cases hr : g r with
     | none => rw [hr] at h; cases h
     | some y =>
       rw [hr] at h
       simp only [Option.bind_some, Option.map_some, Option.some.injEq] at h
       subst h
       rcases List.mem_append.1 hx with hx | hx
       · exact ih hs x hx
       · have : x = y := by simpa using hx
         rw [this]; exact hg r y hr
theorem allS_stop {g:Nat×Nat→Option E} {l:List (Nat×Nat)} {k:Nat} (hk:k<l.length) {xs:List E} (hs:allS g (l.take k)=some xs) (hr:g (l.getD k (0,0))=none):allS g l=none:=by
 have h1:allS g (l.take (k+1))=none:=by rw[take_snoc_getD l (0,0) hk,allS_snoc,hs,hr];rfl
 have:=allS_none (k:=l.drop (k+1)) h1
 rwa [List.take_append_drop]at this
theorem allS_go {g:Nat×Nat→Option E} {l:List (Nat×Nat)} {k:Nat} (hk:k<l.length) {xs:List E} {x:E} (hs:allS g (l.take k)=some xs) (hr:g (l.getD k (0,0))=some x):allS g (l.take (k+1))=some (xs++[x]):=by
 rw[take_snoc_getD l (0,0) hk,allS_snoc,hs,hr];rfl
noncomputable def rollE (s:Nat) (own other:List Int) (r:Nat×Nat):Option E:=(Ra.best s own other r).map fun t=>t.2.2
theorem rollE_best (s:Nat) (own other:List Int) (a b:Nat):rollE s own other (a,b)=(bestS (sq s) (sec s other) (resultsL own a b)).map fun t=>t.2.2:=rfl
theorem rollE_val {s:Nat} (hB:1≤sq s) (own other:List Int) (r:Nat×Nat) (x:E) (h:rollE s own other r=some x):Val (sq s) x:=by
 obtain⟨a,b⟩:=r;rw[rollE_best]at h
 cases hb:bestS (sq s) (sec s other) (resultsL own a b) with
 | none=>rw[hb]at h;cases h
 | some u =>
   rw [hb] at h
   simp only [Option.map_some, Option.some.injEq] at h
   subst h
   exact bestS_val hB (fun q x h => sec_val hB h) hb
def OwnE (w:World) (base:Nat) (v:Value) (xs:List E):Prop:=w.ownsRow base 35 2 v xs.length (exC xs)
theorem OwnE.el {w:World} {base:Nat} {v:Value} {xs:List E} (h:OwnE w base v xs):∃A c,v = .slice A xs.length c∧EL (fun _=>False) w A xs.length xs∧xs.length≤c:=by
 obtain⟨A,c,hv,hs,hc⟩:=row_read (S:=fun _=>False) h (fun k hk h=>h) (by omega)
 exact⟨A,c,hv,⟨rfl,hs⟩,hc⟩
theorem wth_low {v:Value} {base:Nat} {t:RT} {w:World} {n:Nat} {cs:List Value} {e:TypeId} {z:Nat} (hr:w.ownsRow base e z v n cs) (hs:∀k,t.S k→k<base):∀k,some k=v.ownBlock→¬t.S k:=fun k hk h=>by
 have:=(World.ownsRow.lt hr k hk.symm).1;have:=hs k h
 omega
theorem RaceI.grew {t:RT} {T:Nat→Prop} {w w1:World} {v v':Value} (h:RaceI t (wth T v) w) (hg:w.grownBy w1 v.ownBlock) (hat:v'.ownBlock=v.ownBlock∨v'.ownBlock=some w.heap.size) (hn:∀k,some k=v.ownBlock→¬t.S k):RaceI t (wth T v') w1:=by
 have h1:=h.set (T':=fun k=>wth T v k∨wth T v' k) (fun k hk=>hk.elim .inl (wth_new hat k)) (fun k hk=>.inl (h.sub k hk))
 have h2:=h1.own (Frm.of_grown hg) (fun k hk=>.inl (.inr hk.symm)) hn
 exact h2.less (fun k hk=>.inr hk) (fun k hk=>by
  have h3:=h.sub k hk
  rcases h3 with h3|h3
  ·exact .inl h3
  ·exact absurd hk (hn k h3.symm))
set_option maxRecDepth 100000 in
set_option maxHeartbeats 4000000 in
theorem compute_any (t:RT) (ht:t.Ok) {own other:List Int} (hq:PosP t.h t.c own) (hq2:PosP t.h t.c other) (hs0:own.sum≠0) (ht0:other.sum≠0) (hwin:∀q,PosP t.h t.c q→pips q<pips own→WinC t other q)
  (T:Nat→Prop) (A B:Option Addr) (ca cb:Nat) (w:World) (hT:∀k,w.heap.size≤k→¬T k) (hI:RaceI t T w) (hA:SQ T w A t.h own) (hca:t.h≤ca) (hB:SQ T w B t.h other) (hcb:t.h≤cb):
  Calls Tryz.prog 170 #[.pointer (some ⟨t.bt,0,none⟩),.slice A t.h ca,.slice B t.h cb] w (RetWn t T w (win t.s own other)):=by
 obtain⟨i0,hi,hz0,hz1,hz2⟩:=info_parts Tryz.infoE;have hv:=isVar_yes ht.v
 have hs1:1≤t.s:=by omega
 have hs6:t.s≤6:=by omega
 obtain⟨hq1,hq36,_⟩:=sq_bd hs1 hs6;have hlow:=hI.ltS;have HLOW:=Lib.hid hlow;have HSUB:=Lib.hid hI.sub
 have HNS:Hid (¬t.S w.heap.size):=fun h=>by have:=hlow _ h;omega
 have HF0:Hid (FrS t.S w (w.alloc (.cells #[.int .i64 0,.int .i64 0] 35)) [[.int .i64 0,.int .i64 0]]):=(FrS.start w hlow).allocT (by simp) _ _
 have hb0:Below w.heap.size w (w.alloc (.cells #[.int .i64 0,.int .i64 0] 35)):=(Below.refl _ _).alloc (Nat.le_refl _) _
 have HI0:Hid (RaceI t (wth (ownT T w 1) (.slice none 0 0)) (w.alloc (.cells #[.int .i64 0,.int .i64 0] 35))):=((hI.wide 1).below hb0).less (fun k hk=>hk.elim id fun h=>by cases h) (fun k hk=>.inl (.inl (hI.sub k hk)))
 have HA:=Lib.hid (hA.set (S':=fun k=>T k∨w.heap.size≤k) fun k hk=>hk)
 have HB:=Lib.hid (hB.set (S':=fun k=>T k∨w.heap.size≤k) fun k hk=>hk)
 have HT:=Lib.hid hT;have HWIN:Hid (win t.s own other=(allS (rollE t.s own other) (rollsN t.s)).bind (meanE (sq t.s) (rollsN t.s))):=win_eq hq hq2 hs0 ht0;have HVAL:=Lib.hid (rollE_val hq1 own other);have HR:=Lib.hid ht.r
 have hnr21:t.nr≤21:=by rw[← ht.r];exact rolls_le hs6
 have CBEST:Hid (∀(k a b:Nat),k<t.nr→(rollsN t.s).getD k (0,0)=(a,b)→∀(T:Nat→Prop) (w:World),(∀k,w.heap.size≤k→¬T k)→RaceI t T w→SQ T w A t.h own→SQ T w B t.h other→
   Calls Tryz.prog 76 #[.pointer (some ⟨t.bt,0,none⟩),.slice A t.h ca,.slice B t.h cb,.int .i64 (k:Int)] w (RetBest t T w (resultsL own a b) (bestS (sq t.s) (sec t.s other) (resultsL own a b)))):=fun k a b hk hab T w hT hI hA hB=>by
  have hr:=mem_rollsN.1 (getD_mem' (rollsN t.s) (0,0) (k:=k) (by rw[ht.r];exact hk))
  rw[hab]at hr;obtain⟨r1,r2,r3⟩:=hr
  simp only at r1 r2 r3
  exact best_any t ht hq hs0 k a b hk hab (fun q hqm=>second_any t ht (hwin q (results_pos (by omega) r1 hq q hqm).1 ((results_pos (by omega) r1 hq q hqm).2.2 hs0))) T A B ca cb w hT hI hA hca hB hcb
 have MEAN:=Lib.hid fun (W:World) (A:Option Addr) (c0:Nat) (xs:List E) (hx:EL (fun _=>False) W A t.nr xs) (hval:∀x∈xs,Val (sq t.s) x)=>meanExact_any t.p t.c t.h t.s t.nr c0 A xs W ht.v hx ht.r hval
 clear hT hI hA hB hv hlow hb0 hq hq2 hs0 ht0 hwin ht;generalize hTT:ownT T w 1=T' at *
 have HTN:Hid (∀(W:World) (v:Value) (xs:List E),w.heap.size+1≤W.heap.size→OwnE W (w.heap.size+1) v xs→∀k,W.heap.size≤k→¬wth T' v k):=fun W v xs hz ho k hk=>by
  rintro (h|h)
  ·rw[← hTT]at h;exact ownT_new HT.out hz k hk h
  ·have:=(World.ownsRow.lt ho k h).2;omega
 have HSU:Hid (∀k,t.S k→T k∨w.heap.size≤k):=fun k hk=>.inl (HSUB.out k hk)
 have HTT:=Lib.hid hTT;clear hTT;have e5:=HI0.out.tb 5 _ rfl;have hbt:=HI0.out.ltB
 go_enter Tryz.func170,Tryz.ntmps170
 go_wp2_with (fail)
 go_loopw [8,18] (fun v8 v18 wr=>∃(k:Nat) (xs:List E),k≤t.nr∧v18 = .int .i64 k∧Hid (allS (rollE t.s own other) ((rollsN t.s).take k)=some xs∧xs.length=k)∧(∃vx,vx=v8∧Hid (OwnE wr (w.heap.size+1) vx xs∧RaceI t (wth T' vx) wr))∧Hid (FrS t.S w wr [[.int .i64 0,.int .i64 0]])) (fun _ v18 _=>t.nr-(intOf v18).toNat)
 case atStart=>exact⟨0,[],by omega,rfl,⟨rfl,rfl⟩,⟨_,rfl,World.ownsRow_nil _ _ _ _,HI0.out⟩,HF0.out⟩
 case round=>
  clear e5 hbt HI0 HF0;obtain⟨k,xs,hk,rfl,hxs,⟨vx,rfl,hOI⟩,HF⟩:=hrel;have HI:=Lib.hid hOI.out.2;have HO:=Lib.hid hOI.out.1;clear hOI;have hxk:=hxs.out.2;have HXK:=Lib.hid hxk;clear hxk
  by_cases hlt:k<t.nr
  ·have hki:(k:Int)<(t.nr:Int):=by omega
   have hzr:w.heap.size+1≤wr.heap.size:=by have:=HF.out.z;simpa using this
   have hUU:∀j,wth T' vx j→T j∨w.heap.size≤j:=fun j hj=>by
    rcases hj with h|h
    ·rw[← HTT.out]at h
     exact h.imp id fun h=>h.1
    ·have:=(World.ownsRow.lt HO.out j h).1;omega
   have hfu:Frm (fun k=>T k∨w.heap.size≤k) w wr:=HF.out.f.mono HSU.out
   have HLK:Hid (k<(rollsN t.s).length):=by unfold Hid;rw[HR.out];exact hlt
   have hsl:∀j,t.S j→j<w.heap.size+1:=fun j hj=>by have:=HLOW.out j hj;omega
   have HNR:=Lib.hid (wth_low HO.out hsl)
   rcases hab:(rollsN t.s).getD k (0,0) with⟨a,b⟩
   have CB:=Lib.hid (CBEST.out k a b hlt hab (wth T' vx) wr (HTN.out wr vx xs hzr HO.out) HI.out ((HA.out.frm hfu).less hUU) ((HB.out.frm hfu).less hUU))
   rcases hbs:bestS (sq t.s) (sec t.s other) (resultsL own a b) with _|⟨cnt,at',⟨xn,xd⟩⟩
   ·have HRE:Hid (win t.s own other=none):=by
     unfold Hid
     rw[HWIN.out,allS_stop HLK.out hxs.out.1 (by rw[hab,rollE_best,hbs];rfl)];rfl
    rw[hbs]at CB;clear hab hbs hfu hUU hsl;obtain⟨z0,c00,f00,c01,f01⟩:=HF.out.xf3
    go_wp2_with (fail)
    clear z0 c00 f00 c01 f01
    refine CB.out.mono ?_
    rintro e w2 ⟨hI2,hf2,rfl⟩
    have HF2:=Lib.hid (HF.out.frm hf2);have HI2:=Lib.hid hI2;clear hI2 hf2 HF HI HO CB;obtain⟨z0,c00,f00,c01,f01⟩:=HF2.out.xf3
    go_wp2_with (fail)
    refine bodyPost_ret (v:=.tuple #[.agg #[.int .i64 0,.int .i64 0],.bool false]) (by simp[results,Tryz.results170,go_sem,c00,c01,z0,f00,f01]) rfl (RetWn.mkN HRE.out ?_ ?_)
    ·refine RaceI.less (T:=wth T' vx) ?_ (fun j hj=>by rw[← HTT.out];exact .inl (.inl hj)) HSUB.out
     repeat (first|exact HI2.out|refine RaceI.alloc ?_ _|refine RaceI.stored ?_ _ (by rw[← HTT.out];exact .inl (ownT_at 0 rfl (by omega))) HNS.out)
    ·repeat (first|exact HF2.out.f|refine Frm.alloc ?_ _|refine Frm.ownSet ?_ (by omega) _)
   ·have HXS:Hid (allS (rollE t.s own other) ((rollsN t.s).take (k+1))=some (xs++[⟨xn,xd⟩])):=allS_go HLK.out hxs.out.1 (by rw[hab,rollE_best,hbs];rfl)
    rw[hbs]at CB;clear hab hbs hfu hUU hsl;obtain⟨z0,c00,f00,c01,f01⟩:=HF.out.xf3
    go_wp2_with (fail)
    clear z0 c00 f00 c01 f01
    refine CB.out.mono ?_
    rintro e w2 ⟨hI2,hf2,vb,rfl,_⟩
    have HF3:Hid (FrS t.S w ((w2.alloc (.cells #[.int .i64 xn,.int .i64 (xd:Int)] 35)).alloc (.cells #[.int .i64 xn,.int .i64 (xd:Int)] 35)) [[.int .i64 0,.int .i64 0]]):=((HF.out.frm hf2).alloc _).alloc _;have HI3:Hid (RaceI t (wth T' vx) ((w2.alloc (.cells #[.int .i64 xn,.int .i64 (xd:Int)] 35)).alloc (.cells #[.int .i64 xn,.int .i64 (xd:Int)] 35))):=(hI2.alloc _).alloc _
    have HROW:Hid (((w2.alloc (.cells #[.int .i64 xn,.int .i64 (xd:Int)] 35)).alloc (.cells #[.int .i64 xn,.int .i64 (xd:Int)] 35)).ownsRow (w.heap.size+1) 35 2 vx xs.length (exC xs)):=
     row_alloc (row_alloc (hf2.row HO.out fun j hj=>HNR.out j hj.symm) _) _
    have HVL:=Lib.hid fun (j:Nat) (hj:vx.ownBlock=some j)=>World.ownsRow.lt HO.out j hj
    have hzs:=Lib.hid (Nat.le_trans hzr hf2.size);clear hI2 hf2 HF HI HO CB;have hzq:w.heap.size+1≤w2.heap.size:=hzs.out
    have hTN:Hid (∀j u,[Value.int .i64 xn,.int .i64 (xd:Int)][j]? = some u→((w2.alloc (.cells #[.int .i64 xn,.int .i64 (xd:Int)] 35)).alloc (.cells #[.int .i64 xn,.int .i64 (xd:Int)] 35)).cell? ((⟨w2.heap.size+1,0,none⟩:Addr).add j)=some u):=by
     have h:=two_new (w2.alloc (.cells #[.int .i64 xn,.int .i64 (xd:Int)] 35)) xn (xd:Int) 35
     rw[show (w2.alloc (.cells #[.int .i64 xn,.int .i64 (xd:Int)] 35)).heap.size=w2.heap.size+1 by simp]at h
     exact h
    go_wp2_with (at_builtin;(refine wpList_append_own_at _ rfl _ _ 29 rfl (w.heap.size+1) 35 i0 (.agg #[.int .i64 0,.int .i64 0]) 2 16 Tryz.underlying29 hi hz0 hz1 hz2 rfl (by decide) _ _ _ rfl HROW.out ⟨w2.heap.size+1,0,none⟩ 1 1 [.int .i64 xn,.int .i64 (xd:Int)] rfl rfl hTN.out (two_cells _ _) (by have:=HXK.out;unfold maxLen;omega) (by have:=HXK.out;omega) (by simp;omega) ?_);intro v' w4 hown hgrow _ hat)
    have HI4:Hid (RaceI t (wth T' v') w4):=HI3.out.grew hgrow hat HNR.out
    have HF4:Hid (FrS t.S w w4 [[.int .i64 0,.int .i64 0]]):=HF3.out.out (Frm.of_grown hgrow) (fun j hj=>by have:=(HVL.out j hj.symm).1;simpa using this)
    have HO4:Hid (OwnE w4 (w.heap.size+1) v' (xs++[⟨xn,xd⟩])):=by
     unfold Hid OwnE;rw[exC_snoc,List.length_append]
     exact hown
    have HL4:Hid ((xs++[(⟨xn,xd⟩:E)]).length=k+1):=by unfold Hid;rw[List.length_append,HXK.out];rfl
    clear hown hgrow hat HI3 HF3 HROW
    go_wp2_with (fail)
    go_roundw
    case rel=>exact⟨k+1,xs++[⟨xn,xd⟩],by omega,by go_num,⟨HXS.out,HL4.out⟩,⟨_,rfl,HO4.out,HI4.out⟩,HF4.out⟩
    case measure=>(simp[intOf])<;>omega
  ·have hke:k=t.nr:=by omega
   have HALL:Hid (allS (rollE t.s own other) (rollsN t.s)=some xs):=by
    have h:=hxs.out.1
    rwa [List.take_of_length_le (by rw[HR.out];omega)]at h
   have HRE:Hid (win t.s own other=meanE (sq t.s) (rollsN t.s) xs):=by
    unfold Hid
    rw[HWIN.out,HALL.out];rfl
   obtain⟨Av,cv,hvx,hel,_⟩:=HO.out.el
   have hxl:xs.length=t.nr:=by rw[HXK.out,hke]
   rw[hxl]at hvx hel;have MEAN2:=Lib.hid (MEAN.out wr Av cv xs hel (allS_val HVAL.out HALL.out));subst hvx;have e0:=HI.out.tb 0 _ rfl;have e1:=HI.out.tb 1 _ rfl;have e2:=HI.out.tb 2 _ rfl;have e3:=HI.out.tb 3 _ rfl;have hbt:=HI.out.ltB;clear hel hxl HO hxs;generalize meanE (sq t.s) (rollsN t.s) xs=o at *;obtain⟨z0,c00,f00,c01,f01⟩:=HF.out.xf3
   rcases o with _|⟨m,d⟩
   ·go_wp2_with (fail)
    clear z0 c00 f00 c01 f01
    refine MEAN2.out.mono ?_
    rintro e w2 ⟨rfl,hb2⟩
    simp only[Option.getD_none,Option.isSome_none]
    have HF2:=Lib.hid (HF.out.below hb2);have HI2:=Lib.hid (HI.out.below hb2);clear HF HI hb2 e0 e1 e2 e3 hbt MEAN2;obtain⟨z0,c00,f00,c01,f01⟩:=HF2.out.xf3
    go_wp2_with (fail)
    refine bodyPost_ret (v:=.tuple #[.agg #[.int .i64 0,.int .i64 0],.bool false]) (by simp[results,Tryz.results170,go_sem,c00,c01,z0,f00,f01]) rfl (RetWn.mkN HRE.out ?_ ?_)
    ·refine RaceI.less (T:=wth T' (.slice Av t.nr cv)) ?_ (fun j hj=>by rw[← HTT.out];exact .inl (.inl hj)) HSUB.out
     repeat (first|exact HI2.out|refine RaceI.alloc ?_ _|refine RaceI.stored ?_ _ (by rw[← HTT.out];exact .inl (ownT_at 0 rfl (by omega))) HNS.out)
    ·repeat (first|exact HF2.out.f|refine Frm.alloc ?_ _|refine Frm.ownSet ?_ (by omega) _)
   ·go_wp2_with (fail)
    clear z0 c00 f00 c01 f01
    refine MEAN2.out.mono ?_
    rintro e w2 ⟨rfl,hb2⟩
    simp only[Option.getD_some,Option.isSome_some]
    have HF2:=Lib.hid (HF.out.below hb2);have HI2:=Lib.hid (HI.out.below hb2);clear HF HI hb2 e0 e1 e2 e3 hbt MEAN2;obtain⟨z0,c00,f00,c01,f01⟩:=HF2.out.xf3
    go_wp2_with (fail)
    refine bodyPost_ret (v:=.tuple #[.agg #[.int .i64 m,.int .i64 (d:Int)],.bool true]) (by simp[results,Tryz.results170,go_sem,c00,c01,z0,f00,f01]) rfl (RetWn.mkY HRE.out ?_ ?_)
    ·refine RaceI.less (T:=wth T' (.slice Av t.nr cv)) ?_ (fun j hj=>by rw[← HTT.out];exact .inl (.inl hj)) HSUB.out
     repeat (first|exact HI2.out|refine RaceI.alloc ?_ _|refine RaceI.stored ?_ _ (by rw[← HTT.out];exact .inl (ownT_at 0 rfl (by omega))) HNS.out)
    ·repeat (first|exact HF2.out.f|refine Frm.alloc ?_ _|refine Frm.ownSet ?_ (by omega) _)
end Go.Proofs.YtkaiilmgemaljaaGreat
/- Contract of a win chance, out of the program's race table. There are no conditions. -/
namespace Go.Proofs.YtkaiilmgemaljaaGreat
open Go.RowKit Ps Ra Ex Go.Maps
theorem RaceM.put2 {t:RT} {T:Nat→Prop} {w w1 w2:World} {f1 f2 f3:Lit→Option Value} {q r:List Int} (h:RaceM t T w f1 f2 f3) (hq:PosP t.h t.c q) (hr:PosP t.h t.c r)
  (hs2:MapV Tryz.prog 2 w1 t.b2 (keysU t.N) (putF f2 (t.k2 q r) (exV (win t.s q r)))) (hg2:w.grownBy w1 (some t.b2))
  (hs3:MapV Tryz.prog 2 w2 t.b3 (keysU t.N) (putF f3 (t.k2 q r) (.bool (win t.s q r).isNone))) (hg3:w1.grownBy w2 (some t.b3))
  (hT2:T t.b2) (hT3:T t.b3) (d12:t.b1≠t.b2) (d13:t.b1≠t.b3) (d23:t.b2≠t.b3):RaceM t T w2 f1 (putF f2 (t.k2 q r) (exV (win t.s q r))) (putF f3 (t.k2 q r) (.bool (win t.s q r).isNone)):=by
 obtain⟨h1,_,_,h4,h5⟩:=h
 have hf2:Frm (fun k=>k=t.b2) w w1:=(Frm.of_grown hg2).mono fun k hk=>by injection hk
 have hf3:Frm (fun k=>k=t.b3) w1 w2:=(Frm.of_grown hg3).mono fun k hk=>by injection hk
 refine⟨(h1.frm hf2 d12).frm hf3 d13,hs2.frm hf3 d23,hs3,fun q' hq' u hu=>((h4 q' hq' u hu).frm hf2 fun k hk=>by rw[hk];exact hT2).frm hf3 fun k hk=>by rw[hk];exact hT3,fun q' r' hq' hr' u hu=>?_⟩
 by_cases e:t.k2 q' r'=t.k2 q r
 ·obtain⟨rfl,rfl⟩:=k2_inj hq' hr' hq hr e
  rw[putF_same]at hu ⊢;injection hu with hu
  exact⟨hu.symm,rfl⟩
 ·rw[putF_other f2 e]at hu
  rw[putF_other f3 e]
  exact h5 q' r' hq' hr' u hu
theorem RaceI.put2 {t:RT} {T:Nat→Prop} {w w1 w2:World} {f1 f2 f3:Lit→Option Value} {q r:List Int} (hI:RaceI t T w) (h:RaceM t T w f1 f2 f3) (hq:PosP t.h t.c q) (hr:PosP t.h t.c r)
  (hs2:MapV Tryz.prog 2 w1 t.b2 (keysU t.N) (putF f2 (t.k2 q r) (exV (win t.s q r)))) (hg2:w.grownBy w1 (some t.b2))
  (hs3:MapV Tryz.prog 2 w2 t.b3 (keysU t.N) (putF f3 (t.k2 q r) (.bool (win t.s q r).isNone))) (hg3:w1.grownBy w2 (some t.b3)):RaceI t T w2:=by
 have hT2:=hI.sub _ (.inr (.inl rfl));have hT3:=hI.sub _ (.inr (.inr rfl));have hf:Frm t.S w w2:=(frm_S hg2 (.inr (.inl rfl))).trans (frm_S hg3 (.inr (.inr rfl)))
 exact⟨fun j v hv=>hf.cell' (hI.tb j v hv) fun h=>hI.nt (hI.sub _ h),hI.nt,hI.rl.frm (hf.mono hI.sub),hI.sub,hI.d12,hI.d13,hI.d23,_,_,_,h.put2 hq hr hs2 hg2 hs3 hg3 hT2 hT3 hI.d12 hI.d13 hI.d23⟩
set_option maxRecDepth 100000 in
set_option maxHeartbeats 4000000 in
theorem win_step (t:RT) (ht:t.Ok) {own other:List Int} (hq:PosP t.h t.c own) (hq2:PosP t.h t.c other) (hwin:own.sum≠0→∀q,PosP t.h t.c q→pips q<pips own→WinC t other q):WinC t own other:=by
 intro T A B ca cb w hT hI hA hca hB hcb
 have hv:=isVar_yes ht.v
 have hh24:t.h≤24:=by omega
 have hc15:t.c≤15:=by omega
 have hlow:=hI.ltS;have HSUB:=Lib.hid hI.sub
 have HNS:Hid (¬t.S w.heap.size):=fun h=>by have:=hlow _ h;omega
 have HF0:Hid (FrS t.S w (w.alloc (.cells #[.int .i64 0,.int .i64 0] 35)) [[.int .i64 0,.int .i64 0]]):=(FrS.start w hlow).allocT (by simp) _ _
 have hb0:Below w.heap.size w (w.alloc (.cells #[.int .i64 0,.int .i64 0] 35)):=(Below.refl _ _).alloc (Nat.le_refl _) _;have HI0:Hid (RaceI t (ownT T w 1) (w.alloc (.cells #[.int .i64 0,.int .i64 0] 35))):=(hI.wide 1).below hb0;have HA:=Lib.hid ((hA.wide 1).below hb0);have HB:=Lib.hid ((hB.wide 1).below hb0)
 have HTN:Hid (∀W:World,w.heap.size+1≤W.heap.size→∀k,W.heap.size≤k→¬ownT T w 1 k):=fun W hz=>ownT_new hT hz
 have TOA:=Lib.hid (total_any A t.h ca own _ HA.out.1 hq.2.1 (by have:=hq.2.2;omega) (by omega))
 have TOB:=Lib.hid (total_any B t.h cb other _ HB.out.1 hq2.2.1 (by have:=hq2.2.2;omega) (by omega))
 have HIW:=Lib.hid (hI.wide 1);have HIW:=Lib.hid (hI.wide 1)
 by_cases hs0:own.sum=0
 ·have HRE:Hid (win t.s own other=some ⟨1,0⟩):=win_own hs0
  have b0:(own.sum == 0)=true:=by simp[hs0]
  clear hT hI hA hB hv hlow hb0 hq hq2 hwin hs0 ht HTN HA HB TOB
  go_enter Tryz.func84,Tryz.ntmps84
  go_wp2_with (go_at_call 74;(with_reducible refine TOA.out.mono ?_);rintro e w' ⟨rfl,rfl⟩)
  refine bodyPost_ret (v:=.tuple #[.agg #[.int .i64 1,.int .i64 ((0:Nat):Int)],.bool true]) (by simp[results,Tryz.results84,go_sem]) rfl (RetWn.mkY HRE.out ?_ ?_)
  ·refine RaceI.less (T:=ownT T w 1) ?_ (fun k hk=>.inl hk) HSUB.out
   repeat (first|exact HIW.out|refine RaceI.alloc ?_ _)
  ·repeat (first|exact Frm.refl _ _|refine Frm.alloc ?_ _)
 ·have b0:(own.sum == 0)=false:=by simp[hs0]
  by_cases ht0:other.sum=0
  ·have HRE:Hid (win t.s own other=some ⟨0,0⟩):=win_other hs0 ht0
   have b1:(other.sum == 0)=true:=by simp[ht0]
   clear hT hI hA hB hv hlow hb0 hq hq2 hwin hs0 ht0 ht HTN HA HB
   go_enter Tryz.func84,Tryz.ntmps84
   go_wp2_with (first|(go_at_call 74;(with_reducible refine TOA.out.mono ?_);rintro e w' ⟨rfl,rfl⟩)|(go_at_call 74;(with_reducible refine TOB.out.mono ?_);rintro e w' ⟨rfl,rfl⟩))
   refine bodyPost_ret (v:=.tuple #[.agg #[.int .i64 0,.int .i64 ((0:Nat):Int)],.bool true]) (by simp[results,Tryz.results84,go_sem]) rfl (RetWn.mkY HRE.out ?_ ?_)
   ·refine RaceI.less (T:=ownT T w 1) ?_ (fun k hk=>.inl hk) HSUB.out
    repeat (first|exact HIW.out|refine RaceI.alloc ?_ _)
   ·repeat (first|exact Frm.refl _ _|refine Frm.alloc ?_ _)
  ·have b1:(other.sum == 0)=false:=by simp[ht0]
   have HQ:=Lib.hid hq;have HQ2:=Lib.hid hq2
   have COMP:=Lib.hid fun (W:World)=>compute_any t ht hq hq2 hs0 ht0 (hwin hs0) (ownT T w 1) A B ca cb W
   have CN1:=Lib.hid fun (W:World) (hx:SL W A t.h own)=>bearoffNumber_any t.p t.s t.c t.h A t.h ca own W hx hq hc15 hh24
   have CN2:=Lib.hid fun (W:World) (hx:SL W B t.h other)=>bearoffNumber_any t.p t.s t.c t.h B t.h cb other W hx hq2 hc15 hh24
   have hn1:num t.c own<t.N:=num_lt hq;have hn2:num t.c other<t.N:=num_lt hq2;have hN5:=ht.n
   have hmul:num t.c own*t.N≤500*500:=Nat.mul_le_mul (by omega) hN5
   have HKU:Hid (Lit.int .i64 ((num t.c own*t.N+num t.c other:Nat):Int)∈keysU t.N):=mem_keysU (pair_lt hn1 hn2);have HN5:=Lib.hid hN5
   have hw1:IntKind.i64.wrap ((num t.c own:Int)*(t.N:Int))=((num t.c own*t.N:Nat):Int):=by
    rw[← Int.natCast_mul];exact IntWalk.i64_in _ (by omega)
   have hw2:IntKind.i64.wrap (((num t.c own*t.N:Nat):Int)+(num t.c other:Int))=((num t.c own*t.N+num t.c other:Nat):Int):=by
    rw[← Int.natCast_add];exact IntWalk.i64_in _ (by omega)
   have HK2:Hid (t.k2 own other=Lit.int .i64 ((num t.c own*t.N+num t.c other:Nat):Int)):=rfl
   have hkb:num t.c own*t.N+num t.c other≤1000000:=by omega
   generalize hKK:num t.c own*t.N+num t.c other=K at *;generalize hMM:num t.c own*t.N=M at *;have HMM:=Lib.hid hMM;have HKK:=Lib.hid hKK;clear hMM hKK;generalize num t.c own=na at *;generalize num t.c other=nb at *
   have hzz:w.heap.size+1≤(w.alloc (.cells #[.int .i64 0,.int .i64 0] 35)).heap.size:=by simp
   clear hT hI hA hB hv hlow hb0 hq hq2 hwin hs0 ht0 ht
   go_enter Tryz.func84,Tryz.ntmps84
   go_wp2_with (first|(go_at_call 74;(with_reducible refine TOA.out.mono ?_);rintro e w' ⟨rfl,rfl⟩)|(go_at_call 74;(with_reducible refine TOB.out.mono ?_);rintro e w' ⟨rfl,rfl⟩))
   generalize w.alloc (.cells #[.int .i64 0,.int .i64 0] 35)=W0 at *;have e0:=HI0.out.tb 0 _ rfl;have e1:=HI0.out.tb 1 _ rfl;have e2:=HI0.out.tb 2 _ rfl;have e3:=HI0.out.tb 3 _ rfl;have e4:=HI0.out.tb 4 _ rfl;have hbt:=HI0.out.ltB;clear TOA TOB
   first|refine wp_region_more2 (by kernel_rfl) (by kernel_rfl) ?_|refine wp_region_more (by kernel_rfl) (by kernel_rfl) ?_
   repeat (first|go_big_quiet_step (first|(go_at_call_of 169 A;exact more_call (CN1.out _ (HA.out.1.more _)))|(go_at_call_of 169 B;exact more_call (CN2.out _ (HB.out.1.more _))))|quiet_step (first|(go_at_call_of 169 A;exact more_call (CN1.out _ (HA.out.1.more _)))|(go_at_call_of 169 B;exact more_call (CN2.out _ (HB.out.1.more _)))))
   refine wpQuiet_nil ?_
   intro _ hw'
   obtain⟨tr,hw''⟩:=hw';subst hw'';have HF1:=Lib.hid (HF0.out.more tr);have HI1:=Lib.hid (HI0.out.below (below_more _ tr));have HA1:=Lib.hid (HA.out.below (below_more _ tr));have HB1:=Lib.hid (HB.out.below (below_more _ tr));have hz1:=Nat.le_trans hzz (size_more _ tr);clear HF0 HI0 HA HB hzz e0 e1 e2 e3 e4 hbt CN1 CN2;generalize more W0 tr=W1 at *;have hbt:=HI1.out.ltB;obtain⟨f1,f2,f3,hm⟩:=HI1.out.maps;have HM:=Lib.hid hm;clear hm HMM HKK hmul hn1 hn2 hw1 hw2;have e7:=HI1.out.tb 7 _ rfl
   have hlook:=HM.out.2.1.look_ok keyI Tryz.underlying106 (z:=.agg #[.int .i64 0,.int .i64 0]) (by kernel_rfl) (key_wf (k:=K) (by omega))
   rcases hf:f2 (t.k2 own other) with _|u
   ·have hlk:(Instr.lookup 106 (.map (some t.b2)) (.int .i64 (K:Int)) true).run Tryz.prog W1 = .ok (.tuple #[.agg #[.int .i64 0,.int .i64 0],.bool false]) W1:=by
     have h:=hlook;rw[← HK2.out,hf]at h
     exact h
    clear hlook hf HM;have hbx:Below W1.heap.size W1 (W1.alloc (.cells #[.int .i64 0,.int .i64 0] 35)):=(Below.refl _ _).alloc (Nat.le_refl _) _
    have COMP2:=Lib.hid (COMP.out (W1.alloc (.cells #[.int .i64 0,.int .i64 0] 35)) (HTN.out _ (by simp;omega)) (HI1.out.alloc _) (HA1.out.below hbx) hca (HB1.out.below hbx) hcb)
    clear COMP hbx
    go_wp2_with (fail)
    refine COMP2.out.mono ?_
    rintro e w2 ⟨rfl,hI2,hf2⟩
    have HF2:=Lib.hid ((HF1.out.alloc (.cells #[.int .i64 0,.int .i64 0] 35)).frm hf2);have HI2:=Lib.hid hI2
    have hz2:W1.heap.size+1≤w2.heap.size:=by have:=hf2.size;simpa using this
    clear hI2 hf2 COMP2 HF1 HI1 HA1 HB1 e7 hbt hlk
    rcases hwo:win t.s own other with _|⟨m,d⟩
    ·have HRE:=Lib.hid hwo
     clear hwo;unfold exV
     simp only[Option.getD_none,Option.isSome_none]
     go_wp2_with (fail)
     have HF3:Hid (FrS t.S w (w2.alloc (.cells #[.int .i64 (0),.int .i64 (0)] 35)) [[.int .i64 0,.int .i64 0]]):=HF2.out.alloc _;have HI3:Hid (RaceI t (ownT T w 1) (w2.alloc (.cells #[.int .i64 (0),.int .i64 (0)] 35))):=HI2.out.alloc _
     have g0:(w2.alloc (.cells #[.int .i64 (0),.int .i64 (0)] 35)).cell? ⟨w2.heap.size,0,none⟩=some (.int .i64 (0)):=by simp[go_sem]
     have g1:(w2.alloc (.cells #[.int .i64 (0),.int .i64 (0)] 35)).cell? ⟨w2.heap.size,1,none⟩=some (.int .i64 (0)):=by simp[go_sem]
     have gz:w2.heap.size<(w2.alloc (.cells #[.int .i64 (0),.int .i64 (0)] 35)).heap.size:=by simp
     clear HF2 HI2;generalize w2.alloc (.cells #[.int .i64 (0),.int .i64 (0)] 35)=X at *;have e7:=HI3.out.tb 7 _ rfl;have hbt:=HI3.out.ltB
     first|refine wp_region_tail_more2 6 (by kernel_rfl) (by kernel_rfl) ?_|refine wp_region_tail_more 6 (by kernel_rfl) (by kernel_rfl) ?_
     simp only[List.take_succ_cons,List.take_zero,List.drop_succ_cons,List.drop_zero]
     repeat (first|go_big_quiet_step (fail)|quiet_step (fail))
     refine wpQuiet_nil ?_
     intro _ hw'
     obtain⟨tr,hw''⟩:=hw';subst hw'';have HFz:=Lib.hid (HF3.out.more tr);have HIz:=Lib.hid (HI3.out.below (below_more _ tr));have k0:=keep_cell g0 (below_more _ tr);have k1:=keep_cell g1 (below_more _ tr);have kz:=Nat.lt_of_lt_of_le gz (size_more _ tr);clear HF3 HI3 g0 g1 gz e7 hbt;generalize more X tr=Z at *;obtain⟨f1',f2',f3',hm⟩:=HIz.out.maps
     obtain⟨Z1,hrun1,hst1,hg1⟩:=hm.2.1.store keyI Tryz.underlying106 (keysU_len HN5.out) (key:=.int .i64 (K:Int)) (val:=.agg #[.int .i64 (0),.int .i64 (0)]) (key_wf (by omega)) HKU.out
     have hfz1:Frm (fun k=>k=t.b2) Z Z1:=(Frm.of_grown hg1).mono fun k hk=>by injection hk
     obtain⟨Z2,hrun2,hst2,hg2⟩:=(hm.2.2.1.frm hfz1 (Ne.symm HIz.out.d23)).store keyI Tryz.underlying107 (keysU_len HN5.out) (key:=.int .i64 (K:Int)) (val:=.bool (true)) (key_wf (by omega)) HKU.out
     have hst1':MapV Tryz.prog 2 Z1 t.b2 (keysU t.N) (putF f2' (t.k2 own other) (exV (win t.s own other))):=by rw[HRE.out,HK2.out];exact hst1
     have hst2':MapV Tryz.prog 2 Z2 t.b3 (keysU t.N) (putF f3' (t.k2 own other) (.bool (win t.s own other).isNone)):=by rw[HRE.out,HK2.out];exact hst2
     have HIf:Hid (RaceI t (ownT T w 1) Z2):=RaceI.put2 HIz.out hm HQ.out HQ2.out hst1' hg1 hst2' hg2;have hs1:Frm t.S Z Z1:=frm_S hg1 (.inr (.inl rfl));have hs2:Frm t.S Z1 Z2:=frm_S hg2 (.inr (.inr rfl));have HFf:Hid (FrS t.S w Z2 [[.int .i64 0,.int .i64 0]]):=(HFz.out.frm hs1).frm hs2
     have hgS:¬t.S w2.heap.size:=fun h=>by have:=HFz.out.low _ h;omega
     have e7:=HIz.out.tb 7 _ rfl
     have e8:=hs1.cell' (HIz.out.tb 8 _ rfl) fun h=>HIz.out.nt (HIz.out.sub _ h)
     have k0':=hs2.cell' (hs1.cell' k0 hgS) hgS;have k1':=hs2.cell' (hs1.cell' k1 hgS) hgS;have kz':=Nat.lt_of_lt_of_le (Nat.lt_of_lt_of_le kz hs1.size) hs2.size;have hbt:=HIz.out.ltB;have hbt1:=Nat.lt_of_lt_of_le hbt hs1.size;clear hm hst1 hg1 hst2 hg2 hst1' hst2' hfz1 hs1 hs2 HIz HFz hgS k0 k1 kz;obtain⟨z0,c00,f00,c01,f01⟩:=HFf.out.xf3
     go_wp2_with (fail)
     refine bodyPost_ret (v:=.tuple #[.agg #[.int .i64 0,.int .i64 0],.bool false]) (by simp[results,Tryz.results84,go_sem,c00,c01,z0,f00,f01]) rfl (RetWn.mkN HRE.out ?_ ?_)
     ·refine RaceI.less (T:=ownT T w 1) ?_ (fun k hk=>.inl hk) HSUB.out
      repeat (first|exact HIf.out|refine RaceI.alloc ?_ _|refine RaceI.drew ?_|refine RaceI.stored ?_ _ (ownT_at 0 rfl (by omega)) HNS.out)
     ·repeat (first|exact HFf.out.f|refine Frm.alloc ?_ _|refine Frm.drew ?_|refine Frm.ownSet ?_ (by omega) _)
    ·have HRE:=Lib.hid hwo
     clear hwo;unfold exV
     simp only[Option.getD_some,Option.isSome_some]
     go_wp2_with (fail)
     have HF3:Hid (FrS t.S w (w2.alloc (.cells #[.int .i64 (m),.int .i64 ((d:Int))] 35)) [[.int .i64 0,.int .i64 0]]):=HF2.out.alloc _;have HI3:Hid (RaceI t (ownT T w 1) (w2.alloc (.cells #[.int .i64 (m),.int .i64 ((d:Int))] 35))):=HI2.out.alloc _
     have g0:(w2.alloc (.cells #[.int .i64 (m),.int .i64 ((d:Int))] 35)).cell? ⟨w2.heap.size,0,none⟩=some (.int .i64 (m)):=by simp[go_sem]
     have g1:(w2.alloc (.cells #[.int .i64 (m),.int .i64 ((d:Int))] 35)).cell? ⟨w2.heap.size,1,none⟩=some (.int .i64 ((d:Int))):=by simp[go_sem]
     have gz:w2.heap.size<(w2.alloc (.cells #[.int .i64 (m),.int .i64 ((d:Int))] 35)).heap.size:=by simp
     clear HF2 HI2;generalize w2.alloc (.cells #[.int .i64 (m),.int .i64 ((d:Int))] 35)=X at *;have e7:=HI3.out.tb 7 _ rfl;have hbt:=HI3.out.ltB
     first|refine wp_region_tail_more2 6 (by kernel_rfl) (by kernel_rfl) ?_|refine wp_region_tail_more 6 (by kernel_rfl) (by kernel_rfl) ?_
     simp only[List.take_succ_cons,List.take_zero,List.drop_succ_cons,List.drop_zero]
     repeat (first|go_big_quiet_step (fail)|quiet_step (fail))
     refine wpQuiet_nil ?_
     intro _ hw'
     obtain⟨tr,hw''⟩:=hw';subst hw'';have HFz:=Lib.hid (HF3.out.more tr);have HIz:=Lib.hid (HI3.out.below (below_more _ tr));have k0:=keep_cell g0 (below_more _ tr);have k1:=keep_cell g1 (below_more _ tr);have kz:=Nat.lt_of_lt_of_le gz (size_more _ tr);clear HF3 HI3 g0 g1 gz e7 hbt;generalize more X tr=Z at *;obtain⟨f1',f2',f3',hm⟩:=HIz.out.maps
     obtain⟨Z1,hrun1,hst1,hg1⟩:=hm.2.1.store keyI Tryz.underlying106 (keysU_len HN5.out) (key:=.int .i64 (K:Int)) (val:=.agg #[.int .i64 (m),.int .i64 ((d:Int))]) (key_wf (by omega)) HKU.out
     have hfz1:Frm (fun k=>k=t.b2) Z Z1:=(Frm.of_grown hg1).mono fun k hk=>by injection hk
     obtain⟨Z2,hrun2,hst2,hg2⟩:=(hm.2.2.1.frm hfz1 (Ne.symm HIz.out.d23)).store keyI Tryz.underlying107 (keysU_len HN5.out) (key:=.int .i64 (K:Int)) (val:=.bool (false)) (key_wf (by omega)) HKU.out
     have hst1':MapV Tryz.prog 2 Z1 t.b2 (keysU t.N) (putF f2' (t.k2 own other) (exV (win t.s own other))):=by rw[HRE.out,HK2.out];exact hst1
     have hst2':MapV Tryz.prog 2 Z2 t.b3 (keysU t.N) (putF f3' (t.k2 own other) (.bool (win t.s own other).isNone)):=by rw[HRE.out,HK2.out];exact hst2
     have HIf:Hid (RaceI t (ownT T w 1) Z2):=RaceI.put2 HIz.out hm HQ.out HQ2.out hst1' hg1 hst2' hg2;have hs1:Frm t.S Z Z1:=frm_S hg1 (.inr (.inl rfl));have hs2:Frm t.S Z1 Z2:=frm_S hg2 (.inr (.inr rfl));have HFf:Hid (FrS t.S w Z2 [[.int .i64 0,.int .i64 0]]):=(HFz.out.frm hs1).frm hs2
     have hgS:¬t.S w2.heap.size:=fun h=>by have:=HFz.out.low _ h;omega
     have e7:=HIz.out.tb 7 _ rfl
     have e8:=hs1.cell' (HIz.out.tb 8 _ rfl) fun h=>HIz.out.nt (HIz.out.sub _ h)
     have k0':=hs2.cell' (hs1.cell' k0 hgS) hgS;have k1':=hs2.cell' (hs1.cell' k1 hgS) hgS;have kz':=Nat.lt_of_lt_of_le (Nat.lt_of_lt_of_le kz hs1.size) hs2.size;have hbt:=HIz.out.ltB;have hbt1:=Nat.lt_of_lt_of_le hbt hs1.size;clear hm hst1 hg1 hst2 hg2 hst1' hst2' hfz1 hs1 hs2 HIz HFz hgS k0 k1 kz;obtain⟨z0,c00,f00,c01,f01⟩:=HFf.out.xf3
     go_wp2_with (fail)
     refine bodyPost_ret (v:=.tuple #[.agg #[.int .i64 m,.int .i64 (d:Int)],.bool true]) (by simp[results,Tryz.results84,go_sem,c00,c01,z0,f00,f01]) rfl (RetWn.mkY HRE.out ?_ ?_)
     ·refine RaceI.less (T:=ownT T w 1) ?_ (fun k hk=>.inl hk) HSUB.out
      repeat (first|exact HIf.out|refine RaceI.alloc ?_ _|refine RaceI.drew ?_|refine RaceI.stored ?_ _ (ownT_at 0 rfl (by omega)) HNS.out)
     ·repeat (first|exact HFf.out.f|refine Frm.alloc ?_ _|refine Frm.drew ?_|refine Frm.ownSet ?_ (by omega) _)
   ·obtain⟨hu1,hu2⟩:=HM.out.2.2.2.2 own other HQ.out HQ2.out u hf
    have hlk:(Instr.lookup 106 (.map (some t.b2)) (.int .i64 (K:Int)) true).run Tryz.prog W1 = .ok (.tuple #[u,.bool true]) W1:=by
     have h:=hlook;rw[← HK2.out,hf]at h
     exact h
    have HL3:Hid (∀(W:World) (O:Nat→Prop),(∀k,O k→¬t.S k)→Frm O W1 W→(Instr.lookup 107 (.map (some t.b3)) (.int .i64 (K:Int)) false).run Tryz.prog W = .ok (.bool (win t.s own other).isNone) W):=fun W O hO hW=>by
     have h:=(HM.out.2.2.1.frm hW (fun h=>hO _ h (.inr (.inr rfl)))).look keyI Tryz.underlying107 (z:=.bool false) (by kernel_rfl) (key_wf (k:=K) (by omega))
     rw[← HK2.out,hu2]at h
     exact h
    subst hu1;clear hlook hf hu2 COMP
    rcases hwo:win t.s own other with _|⟨m,d⟩
    ·have HRE:=Lib.hid hwo
     rw[hwo]at hlk HL3;have hlk':(Instr.lookup 106 (.map (some t.b2)) (.int .i64 (K:Int)) true).run Tryz.prog W1 = .ok (.tuple #[.agg #[.int .i64 0,.int .i64 0],.bool true]) W1:=hlk;clear hwo hlk
     go_wp2_with (fail)
     have HF2:Hid (FrS t.S w (W1.alloc (.cells #[.int .i64 (0),.int .i64 (0)] 35)) [[.int .i64 0,.int .i64 0]]):=HF1.out.alloc _;have HI2:Hid (RaceI t (ownT T w 1) (W1.alloc (.cells #[.int .i64 (0),.int .i64 (0)] 35))):=HI1.out.alloc _
     have g0:(W1.alloc (.cells #[.int .i64 (0),.int .i64 (0)] 35)).cell? ⟨W1.heap.size,0,none⟩=some (.int .i64 (0)):=by simp[go_sem]
     have g1:(W1.alloc (.cells #[.int .i64 (0),.int .i64 (0)] 35)).cell? ⟨W1.heap.size,1,none⟩=some (.int .i64 (0)):=by simp[go_sem]
     have gz:W1.heap.size<(W1.alloc (.cells #[.int .i64 (0),.int .i64 (0)] 35)).heap.size:=by simp
     have e8:=HI2.out.tb 8 _ rfl;have hbt2:=HI2.out.ltB
     have hne:¬t.bt=w.heap.size:=fun h=>by have:=HIW.out.ltB;omega
     have hne2:¬w.heap.size=t.bt:=fun h=>hne h.symm
     have hne3:¬W1.heap.size=w.heap.size:=by omega
     have hne4:¬w.heap.size=W1.heap.size:=by omega
     have hl1:=HL3.out (W1.alloc (.cells #[.int .i64 (0),.int .i64 (0)] 35)).drew (fun k=>k=w.heap.size) (fun k hk=>by rw[hk];exact HNS.out) (((Frm.refl _ W1).alloc _).drew)
     have hl2:=HL3.out (((W1.alloc (.cells #[.int .i64 (0),.int .i64 (0)] 35)).setCell ⟨w.heap.size,0,none⟩ (.int .i64 (0))).setCell ⟨w.heap.size,1,none⟩ (.int .i64 (0))).drew (fun k=>k=w.heap.size) (fun k hk=>by rw[hk];exact HNS.out) ((((Frm.refl _ W1).alloc _).trans ((Frm.set _ _ _ _).trans (Frm.set _ _ _ _))).drew)
     clear HF1 HI1 e7 hbt hlk' HL3 HM;generalize W1.alloc (.cells #[.int .i64 (0),.int .i64 (0)] 35)=X at *;obtain⟨z0,c00,f00,c01,f01⟩:=HF2.out.xf3
     go_region
     all_goals go_wp2_with (fail)
     all_goals
      refine bodyPost_ret (v:=.tuple #[.agg #[.int .i64 0,.int .i64 0],.bool false]) (by simp[results,Tryz.results84,go_sem,c00,c01,z0,f00,f01]) rfl (RetWn.mkN HRE.out ?_ ?_)
      ·refine RaceI.less (T:=ownT T w 1) ?_ (fun k hk=>.inl hk) HSUB.out
       repeat (first|exact HI2.out|refine RaceI.alloc ?_ _|refine RaceI.drew ?_|refine RaceI.stored ?_ _ (ownT_at 0 rfl (by omega)) HNS.out)
      ·repeat (first|exact HF2.out.f|refine Frm.alloc ?_ _|refine Frm.drew ?_|refine Frm.ownSet ?_ (by omega) _)
    ·have HRE:=Lib.hid hwo
     rw[hwo]at hlk HL3;have hlk':(Instr.lookup 106 (.map (some t.b2)) (.int .i64 (K:Int)) true).run Tryz.prog W1 = .ok (.tuple #[.agg #[.int .i64 m,.int .i64 (d:Int)],.bool true]) W1:=hlk;clear hwo hlk
     go_wp2_with (fail)
     have HF2:Hid (FrS t.S w (W1.alloc (.cells #[.int .i64 (m),.int .i64 ((d:Int))] 35)) [[.int .i64 0,.int .i64 0]]):=HF1.out.alloc _;have HI2:Hid (RaceI t (ownT T w 1) (W1.alloc (.cells #[.int .i64 (m),.int .i64 ((d:Int))] 35))):=HI1.out.alloc _
     have g0:(W1.alloc (.cells #[.int .i64 (m),.int .i64 ((d:Int))] 35)).cell? ⟨W1.heap.size,0,none⟩=some (.int .i64 (m)):=by simp[go_sem]
     have g1:(W1.alloc (.cells #[.int .i64 (m),.int .i64 ((d:Int))] 35)).cell? ⟨W1.heap.size,1,none⟩=some (.int .i64 ((d:Int))):=by simp[go_sem]
     have gz:W1.heap.size<(W1.alloc (.cells #[.int .i64 (m),.int .i64 ((d:Int))] 35)).heap.size:=by simp
     have e8:=HI2.out.tb 8 _ rfl;have hbt2:=HI2.out.ltB
     have hne:¬t.bt=w.heap.size:=fun h=>by have:=HIW.out.ltB;omega
     have hne2:¬w.heap.size=t.bt:=fun h=>hne h.symm
     have hne3:¬W1.heap.size=w.heap.size:=by omega
     have hne4:¬w.heap.size=W1.heap.size:=by omega
     have hl1:=HL3.out (W1.alloc (.cells #[.int .i64 (m),.int .i64 ((d:Int))] 35)).drew (fun k=>k=w.heap.size) (fun k hk=>by rw[hk];exact HNS.out) (((Frm.refl _ W1).alloc _).drew)
     have hl2:=HL3.out (((W1.alloc (.cells #[.int .i64 (m),.int .i64 ((d:Int))] 35)).setCell ⟨w.heap.size,0,none⟩ (.int .i64 (m))).setCell ⟨w.heap.size,1,none⟩ (.int .i64 ((d:Int)))).drew (fun k=>k=w.heap.size) (fun k hk=>by rw[hk];exact HNS.out) ((((Frm.refl _ W1).alloc _).trans ((Frm.set _ _ _ _).trans (Frm.set _ _ _ _))).drew)
     clear HF1 HI1 e7 hbt hlk' HL3 HM;generalize W1.alloc (.cells #[.int .i64 (m),.int .i64 ((d:Int))] 35)=X at *;obtain⟨z0,c00,f00,c01,f01⟩:=HF2.out.xf3
     go_region
     all_goals go_wp2_with (fail)
     all_goals
      refine bodyPost_ret (v:=.tuple #[.agg #[.int .i64 m,.int .i64 (d:Int)],.bool true]) (by simp[results,Tryz.results84,go_sem,c00,c01,z0,f00,f01]) rfl (RetWn.mkY HRE.out ?_ ?_)
      ·refine RaceI.less (T:=ownT T w 1) ?_ (fun k hk=>.inl hk) HSUB.out
       repeat (first|exact HI2.out|refine RaceI.alloc ?_ _|refine RaceI.drew ?_|refine RaceI.stored ?_ _ (ownT_at 0 rfl (by omega)) HNS.out)
      ·repeat (first|exact HF2.out.f|refine Frm.alloc ?_ _|refine Frm.drew ?_|refine Frm.ownSet ?_ (by omega) _)
theorem win_any (t:RT) (ht:t.Ok):∀(f:Nat) {own other:List Int},PosP t.h t.c own→PosP t.h t.c other→pips own+pips other<f→WinC t own other
 | 0,own,other,hq,hq2,h=>by have:=pips_nonneg hq.2.1;have:=pips_nonneg hq2.2.1;omega
 | f+1,own,other,hq,hq2,h=>win_step t ht hq hq2 fun _ q hp hlt=>win_any t ht f hq2 hp (by omega)
theorem win_all (t:RT) (ht:t.Ok) {own other:List Int} (hq:PosP t.h t.c own) (hq2:PosP t.h t.c other):WinC t own other:=by
 have h1:=pips_nonneg hq.2.1;have h2:=pips_nonneg hq2.2.1
 exact win_any t ht ((pips own+pips other).toNat+1) hq hq2 (by omega)
end Go.Proofs.YtkaiilmgemaljaaGreat

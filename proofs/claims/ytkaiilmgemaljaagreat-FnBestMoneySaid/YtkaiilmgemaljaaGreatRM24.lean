/- Part of one proof. There are no conditions. -/
import Derived.Test.YtkaiilmgemaljaaGreatRM20
import Derived.Test.YtkaiilmgemaljaaGreatRM23
set_option maxHeartbeats 0
set_option linter.unusedVariables false
set_option linter.unusedSimpArgs false
set_option maxRecDepth 100000
namespace Go.Proofs.YtkaiilmgemaljaaGreat
open Go.RowKit Ps Ra Ex Mo
def rolG (t:WT) (A B:Option Addr) (ca cb:Nat) (v o:Int) (rb ro cr k a b:Nat) (f:Bool) (ox:Option E) (i:Nat) (u:Value) (lo hi:Nat) (W:World):Prop:=
 match i with
 | 0=>u = .pointer (some ⟨t.bt,0,none⟩)
 | 1=>u = .slice A t.h ca
 | 2=>u = .slice B t.h cb
 | 3=>u = .agg #[.int .i64 v,.int .i64 o]
 | 4=>u = .pointer (some ⟨t.bt,0,none⟩)
 | 5=>u = .pointer (some ⟨t.bt,0,none⟩)
 | 6=>u = .pointer (some ⟨t.bt,8,none⟩)
 | 7=>u = .slice (some ⟨rb,ro,none⟩) t.nr cr
 | 8=>u = .int .i64 (k:Int)
 | 9=>u = .pointer (some ⟨rb,ro+k*2,none⟩)
 | 10=>u = .agg #[.int .i64 (a:Int),.int .i64 (b:Int)]
 | 11=>∃(y:Value) (x:E),u = .tuple #[y,.agg #[.int .i64 x.num,.int .i64 (x.depth:Int)]]/\Val (sq t.s) x/\(f=false->ox=some x)
 | 12=>∃(y:Value) (x:E),u = .tuple #[y,.agg #[.int .i64 x.num,.int .i64 (x.depth:Int)]]/\Val (sq t.s) x/\(f=false->ox=some x)
 | 13=>True
 | 14=>∃x:E,u = .agg #[.int .i64 x.num,.int .i64 (x.depth:Int)]/\Val (sq t.s) x/\(f=false->ox=some x)
 | _=>u = .pointer (some ⟨lo,0,none⟩)/\lo<hi/\(W.cell? ⟨lo,0,none⟩=some (.int .i64 0)/\W.cell? ⟨lo,1,none⟩=some (.int .i64 0))/\∀j,j<2->W.frozen? ⟨lo,j,none⟩=false
theorem rolG_stab {t:WT} {A B:Option Addr} {ca cb:Nat} {v o:Int} {rb ro cr k a b:Nat} {f:Bool} {ox:Option E} {w:World} (hS:∀k,t.S k->k<w.heap.size) (i:Nat) (u:Value) (lo hi:Nat) (W W':World) (hlo:w.heap.size<=lo) (hg:rolG t A B ca cb v o rb ro cr k a b f ox i u lo hi W) (hf:Frm t.S W W'):rolG t A B ca cb v o rb ro cr k a b f ox i u lo hi W':=by
 unfold rolG at *
 split at hg<;>first|exact hg|(
  obtain⟨h1,h2,⟨h3,h4⟩,h5⟩:=hg
  have hn:¬t.S lo:=fun h=>by have:=hS _ h;omega
  exact⟨h1,h2,⟨hf.cell' h3 hn,hf.cell' h4 hn⟩,fun j hj=>(aV hf (World.block_lt_of_cell? W ⟨lo,0,none⟩ h3) hn).trans (h5 j hj)⟩)
theorem l17Roll_any (t:WT) (ht:t.Ok) {own other:List Int} (hq:PosP t.h t.c own) (hq2:PosP t.h t.c other) (hs0:own.sum≠0) {c:Cb} (hc:CbOk t.K c) (heq:∀q,PosP t.h t.c q->pips q<pips own->EqT t other q (swp c)):RolT t own other c:=by
 intro fl A B ca cb w hI hA hca hB hcb
 obtain⟨i0,hi,iz0,iz1,iz2⟩:=info_parts Tryz.infoE;obtain⟨v,o⟩:=c;have hcv:1<=v/\v<=1024/\0<=o/\o<=2:=hc.v1 ht.k;have hv:=aj ht.v
 have hs1:1<=t.s:=by omega
 have hs6:t.s<=6:=by omega
 obtain⟨hq1,hq36,_⟩:=sq_bd hs1 hs6
 have hnr1:0<t.nr:=by
  have h1:=aU t.s
  have h2:1*2<=t.s*(t.s+1):=Nat.mul_le_mul (by omega) (by omega)
  have:=ht.r
  omega
 have hnr21:t.nr<=21:=by rw[<- ht.r];exact ch hs6
 have hncr:=ht.c;have hlow:=hI.ltS;have hlr:=hI.ltR hnr1;have HLOW:=h_ hlow
 have HNS:Hid (∀j,w.heap.size<=j->¬t.S j/\¬t.rb j):=fun j hj=>⟨fun h=>by have:=hlow _ h;omega,fun h=>by have:=hlr _ h;omega⟩
 have HR:=h_ ht.r;obtain⟨rbk,ro,hAr,_,_,_⟩:=hI.rl.at hnr1;have HAr:=h_ hAr
 have hRbS:¬t.S rbk:=by
  obtain⟨_,_,hs⟩:=hI.rl;obtain⟨b',off',hA',_,hn,_⟩:=hs hnr1;rw[hAr]at hA';injection hA' with hA';injection hA' with e _ _
  rw[e];exact hn
 have HRbS:=h_ hRbS;have HROL:Hid (rol t.s t.ru own other (v,o)=(allS (mroll t.s t.ru own other (v,o)) (ad t.s)).bind (meanE (sq t.s) (ad t.s))):=rol_eq _ hq hq2 hs0
 have HRM:Hid (∀k,k<t.nr->1<=((ad t.s).getD k (0,0)).2/\((ad t.s).getD k (0,0)).2<=((ad t.s).getD k (0,0)).1/\((ad t.s).getD k (0,0)).1<=t.s):=fun k hk=>bJ.1 (ao _ _ (by rw[ht.r];exact hk))
 have CAF:Hid (∀a b:Nat,1<=b->b<=a->a<=t.s->AftT t own other (v,o) a b):=fun a b h1 h2 h3=>ia t ht hq hc a b h1 h2 h3 fun q hqm=>heq q (aN (by omega) h1 hq q hqm).1 ((aN (by omega) h1 hq q hqm).2.2 hs0)
 have MEAN:=h_ fun (W:World) (A:Option Addr) (c0:Nat) (xs:List E) (hx:EL (fun _=>False) W A t.nr xs) (hval:∀x∈xs,Val (sq t.s) x)=>i3 t.p t.c t.h t.s t.nr c0 A xs W hs1 hs6 hx ht.r hval
 have hb0:Below w.heap.size w (((w.alloc (.cells #[.int .i64 v,.int .i64 o] 55)).alloc (.cells #[.int .i64 0,.int .i64 0] 35)).alloc (.cells #[] 35)):=(((Below.refl _ _).alloc (Nat.le_refl _) _).alloc (by simp) _).alloc (by simp;omega) _
 have HF0:Hid (FrS t.S w ((w.alloc (.cells #[.int .i64 v,.int .i64 o] 55)).alloc (.cells #[.int .i64 0,.int .i64 0] 35)) [[.int .i64 v,.int .i64 o],[.int .i64 0,.int .i64 0]]):=((FrS.start w hlow).allocT (by simp) _ _).allocT (by simp) _ _
 have HF1:=h_ (HF0.out.alloc (.cells #[] 35));have HI1:=h_ (hI.below hb0);have HA0:=h_ hA;have HB0:=h_ hB
 have HO1:Hid (OwnE (((w.alloc (.cells #[.int .i64 v,.int .i64 o] 55)).alloc (.cells #[.int .i64 0,.int .i64 0] 35)).alloc (.cells #[] 35)) (w.heap.size+2) (.slice (some ⟨w.heap.size+1+1,0,none⟩) 0 0) []):=by
  have h:=fW ((w.alloc (.cells #[.int .i64 v,.int .i64 o] 55)).alloc (.cells #[.int .i64 0,.int .i64 0] 35)) (base:=w.heap.size+2) 35 (z:=2) (n:=0) #[] (by simp) (by unfold maxLen;omega) rfl
  rw[show ((w.alloc (.cells #[.int .i64 v,.int .i64 o] 55)).alloc (.cells #[.int .i64 0,.int .i64 0] 35)).heap.size=w.heap.size+1+1 by simp]at h
  show World.ownsRow _ _ _ 2 _ 0 []
  simpa using h
 clear hI hA hB hv hlow hlr hb0 hq hq2 hs0 heq ht hc hAr hRbS HF0
 go_enter Tryz.func112,Tryz.ntmps112
 go_wp2_with (fail)
 generalize ((w.alloc (.cells #[.int .i64 v,.int .i64 o] 55)).alloc (.cells #[.int .i64 0,.int .i64 0] 35)).alloc (.cells #[] 35)=W0 at *
 go_loopw [9,10] (fun v9 v10 wr=>∃(k:Nat) (xs:List E) (fk:Bool),k<=t.nr/\v10 = .int .i64 k/\Hid (fk=(fl||(allS (mroll t.s t.ru own other (v,o)) ((ad t.s).take k)).isNone)/\xs.length=k/\(∀x∈xs,Val (sq t.s) x)/\(fk=false->allS (mroll t.s t.ru own other (v,o)) ((ad t.s).take k)=some xs))/\(∃vx,vx=v9/\Hid (OwnE wr (w.heap.size+2) vx xs))/\Hid (FrS t.S w wr [[.int .i64 v,.int .i64 o],[.int .i64 0,.int .i64 0]])/\Hid (TbI t fk wr)) (fun _ v10 _=>t.nr-(intOf v10).toNat)
 case atStart=>exact⟨0,[],fl,by omega,rfl,⟨by cases fl<;>rfl,rfl,(fun x hx=>by cases hx),fun _=>rfl⟩,⟨_,rfl,HO1.out⟩,HF1.out,HI1.out⟩
 case round=>
  clear HF1 HI1 HO1;obtain⟨k,xs,fk,hk,rfl,HX,⟨vx,rfl,HO⟩,HF,HI⟩:=hrel;have e8:=HI.out.tb 8 _ rfl;rw[HAr.out]at e8;have ea:=HI.out.fa;have hbt:=HI.out.ltB;have hxk:=HX.out.2.1;have HXK:=h_ hxk;clear hxk
  cases fk
  focus
   by_cases hlt:k<t.nr
   focus
    have hki:(k:Int)<(t.nr:Int):=by omega
    have hrl:=HI.out.rl;rw[HAr.out]at hrl;obtain⟨_,_,hA',hz,q1,q2⟩:=hrl.at hlt;injection hA' with hA';injection hA' with h1 h2;subst h1 h2;obtain⟨r1,r2,r3⟩:=HRM.out k hlt
    have HLK:Hid (k<(ad t.s).length):=by unfold Hid;rw[HR.out];exact hlt
    refine ?za
   rotate_left
   focus
    have hki:¬(k:Int)<(t.nr:Int):=by omega
    have hke:k=t.nr:=by omega
    refine ?zb
  rotate_left 2
  ·have HFL:Hid ((fl||(rol t.s t.ru own other (v,o)).isNone)=true):=by
    unfold Hid
    cases fl with
    | true=>rfl
    | false =>
      have h := HX.out.1
      have h2 : allS (mroll t.s t.ru own other (v, o)) ((ad t.s).take k) = none := by
        cases h3 : allS (mroll t.s t.ru own other (v, o)) ((ad t.s).take k) with
        | none => rfl
        | some y => rw [h3] at h; cases h
      have h4 := allS_none (k := (ad t.s).drop k) h2; rw [List.take_append_drop] at h4
      rw [HROL.out, h4]; rfl
   clear HX HROL HRM CAF MEAN HR HA0 HB0 HO
   have hkk:k<t.nr\/¬k<t.nr:=by omega
   rcases hkk with hlt|hlt
   all_goals
    obtain⟨z0,c00,f00,c01,f01,z1,c10,f10,c11,f11⟩:=HF.out.xf4
    go_wp2_with (fail)
    refine bodyPost_ret (v:=.agg #[.int .i64 0,.int .i64 0]) (by simp[results,Tryz.results112,go_sem,c10,c11,z1,f10,f11]) rfl ?_
    refine⟨⟨0,0⟩,rfl,eL,?_,?_,fun h=>by rw[HFL.out]at h;cases h⟩
    ·refine TbI.eqf ?_ HFL.out.symm
     repeat (first|exact HI.out|refine TbI.alloc ?_ _|refine TbI.stored ?_ _ (HNS.out _ (by omega)).1 (HNS.out _ (by omega)).2)
    ·repeat (first|exact HF.out.f|refine Frm.alloc ?_ _|refine Frm.ownSet ?_ (by omega) _)
  case' za|zb=>
   have hfl:fl=false:=by
    have:=HX.out.1
    cases fl
    ·rfl
    ·cases this
  case za=>
   subst hfl;have HXS:=h_ (HX.out.2.2.2 rfl);have HXV:=h_ HX.out.2.2.1
   rcases hab:(ad t.s).getD k (0,0) with⟨a,b⟩
   rw[hab]at q1 q2 r1 r2 r3
   simp only at q1 q2 r1 r2 r3
   have CB:=h_ (CAF.out a b r1 r2 r3);obtain⟨ob,hob⟩:∃ob,ob=bestS (sq t.s) (neqv t.s t.ru other (v,o)) (resultsL own a b):=⟨_,rfl⟩
   obtain⟨ox,hox⟩:∃ox,ox=ob.map fun y=>y.2.2:=⟨_,rfl⟩
   obtain⟨f2,hf2⟩:∃f2,f2=ox.isNone:=⟨_,rfl⟩
   have hfb:f2=(false||ob.isNone):=by rw[hf2,hox];cases ob<;>rfl
   have hmr:mroll t.s t.ru own other (v,o) ((ad t.s).getD k (0,0))=ox:=by rw[hab,gI,<- hob,hox]
   have HFN:Hid (f2=(false||(allS (mroll t.s t.ru own other (v,o)) ((ad t.s).take (k+1))).isNone)):=by
    unfold Hid;rw[ar _ (0,0) HLK.out,bV,HXS.out,hmr,hf2]
    cases ox<;>rfl
   have HXN:Hid (∀x,ox=some x->allS (mroll t.s t.ru own other (v,o)) ((ad t.s).take (k+1))=some (xs++[x])):=fun x hx=>allS_go HLK.out HXS.out (by rw[hmr,hx])
   have HOB:=h_ hob;have HOX:=h_ hox;have HFB:=h_ hfb;have HQ1:=h_ q1;have HQ2:=h_ q2;have HLR:=h_ HI.out.ltS;clear hab hob hox hf2 hfb hmr hrl q1 q2 r1 r2 r3 HX
   go_wp2_with (fail)
   clear e8 ea hbt
   refine fj 16 (fun i=>i == 14) (fun i=>if i=15 then 12 else if i=12 then 32 else if 12<i then i+32 else i+33) t.S (fun X=>TbI t false X) (fun _ X=>TbI t f2 X) 11 (rolG t A B ca cb v o rbk ro t.cr k a b f2 ox) (by kernel_rfl) (by kernel_rfl) (fun _ _ _ _ _ h=>h) (by omega) rfl HI.out (fun _ _ h hb=>h.below hb) (fun _ _ _ h hb=>h.below hb) (rolG_stab HLR.out) ?_ ?_ ?_ ?_
   ·intro i op hi hX ho a' X hfX hIX hfar hdep
    have hi8:i=14:=by simpa using hX
    subst hi8
    simp at ho
    subst ho
    obtain⟨_,_,y,x,d0,hvx,hxx⟩:=hdep 12 (by omega) (by kernel_rfl)
    replace d0:a'.tmps.getD 32 undef = .tuple #[y,.agg #[.int .i64 x.num,.int .i64 (x.depth:Int)]]:=d0
    exact⟨.agg #[.int .i64 x.num,.int .i64 (x.depth:Int)],fun W'=>by simp only[execOp,Act.eval,d0];go_simp,x,rfl,hvx,hxx⟩
   ·intro i op hi hX hne ho a' X hfX hIX hfar hdep
    have e0:a'.tmps.getD 0 undef = .pointer (some ⟨t.bt,0,none⟩):=(hfar 0 (by decide)).trans rfl
    have e1:a'.tmps.getD 1 undef = .slice A t.h ca:=(hfar 1 (by decide)).trans rfl
    have e2:a'.tmps.getD 2 undef = .slice B t.h cb:=(hfar 2 (by decide)).trans rfl
    have e7:a'.tmps.getD 7 undef = .pointer (some ⟨w.heap.size,0,none⟩):=(hfar 7 (by decide)).trans rfl
    have e10:a'.tmps.getD 10 undef = .int .i64 (k:Int):=(hfar 10 (by decide)).trans rfl
    have hIf:∃f,TbI t f X:=by
     rcases hIX with h|⟨_,h⟩
     ·exact⟨_,h⟩
     ·exact⟨_,h⟩
    obtain⟨f,hIf⟩:=hIf;have y8:=hIf.tb 8 _ rfl;rw[HAr.out]at y8;have hbt:=hIf.ltB;have p1:=hfX.cell' HQ1.out HRbS.out;have p2:=hfX.cell' HQ2.out HRbS.out;have pz:=World.block_lt_of_cell? X _ p1;have HFh:=h_ (HF.out.frm hfX);obtain⟨z0,c00,f00,c01,f01,z1,c10,f10,c11,f11⟩:=HFh.out.xf4
    have hi9:i=0\/i=1\/i=2\/i=3\/i=4\/i=5\/i=6\/i=7\/i=8\/i=9\/i=10\/i=12\/i=13\/i=15:=by simp at hX;omega
    clear hX hne hIX hIf
    rcases hi9 with rfl|rfl|rfl|rfl|rfl|rfl|rfl|rfl|rfl|rfl|rfl|rfl|rfl|rfl
    all_goals
     simp at ho
     subst ho
    ·exact .inl ⟨.pointer (some ⟨t.bt,0,none⟩),X,by simp only[execOp,Act.eval,e0];go_simp,Below.refl _ _,rfl⟩
    ·exact .inl ⟨.slice A t.h ca,X,by simp only[execOp,Act.eval,e1];go_simp,Below.refl _ _,rfl⟩
    ·exact .inl ⟨.slice B t.h cb,X,by simp only[execOp,Act.eval,e2];go_simp,Below.refl _ _,rfl⟩
    ·exact .inl ⟨.agg #[.int .i64 v,.int .i64 o],X,by simp only[execOp,Act.eval,e7];go_simp,Below.refl _ _,rfl⟩
    ·exact .inl ⟨.pointer (some ⟨t.bt,0,none⟩),X,by simp only[execOp,Act.eval,e0];go_simp,Below.refl _ _,rfl⟩
    ·obtain⟨_,_,d0⟩:=hdep 4 (by omega) (by kernel_rfl)
     replace d0:a'.tmps.getD 37 undef = .pointer (some ⟨t.bt,0,none⟩):=d0
     exact .inl ⟨.pointer (some ⟨t.bt,0,none⟩),X,by simp only[execOp,Act.eval,d0];go_simp,Below.refl _ _,rfl⟩
    ·obtain⟨_,_,d0⟩:=hdep 5 (by omega) (by kernel_rfl)
     replace d0:a'.tmps.getD 38 undef = .pointer (some ⟨t.bt,0,none⟩):=d0
     exact .inl ⟨.pointer (some ⟨t.bt,8,none⟩),X,by simp only[execOp,Act.eval,d0];go_simp,Below.refl _ _,rfl⟩
    ·obtain⟨_,_,d0⟩:=hdep 6 (by omega) (by kernel_rfl)
     replace d0:a'.tmps.getD 39 undef = .pointer (some ⟨t.bt,8,none⟩):=d0
     exact .inl ⟨.slice (some ⟨rbk,ro,none⟩) t.nr t.cr,X,by simp only[execOp,Act.eval,d0];go_simp,Below.refl _ _,rfl⟩
    ·exact .inl ⟨.int .i64 (k:Int),X,by simp only[execOp,Act.eval,e10];go_simp,Below.refl _ _,rfl⟩
    ·obtain⟨_,_,d0⟩:=hdep 7 (by omega) (by kernel_rfl)
     obtain⟨_,_,d1⟩:=hdep 8 (by omega) (by kernel_rfl)
     replace d0:a'.tmps.getD 40 undef = .slice (some ⟨rbk,ro,none⟩) t.nr t.cr:=d0;replace d1:a'.tmps.getD 41 undef = .int .i64 (k:Int):=d1
     exact .inl ⟨.pointer (some ⟨rbk,ro+k*2,none⟩),X,by simp only[execOp,Act.eval,d0,d1];go_simp,Below.refl _ _,rfl⟩
    ·obtain⟨_,_,d0⟩:=hdep 9 (by omega) (by kernel_rfl)
     replace d0:a'.tmps.getD 42 undef = .pointer (some ⟨rbk,ro+k*2,none⟩):=d0
     exact .inl ⟨.agg #[.int .i64 (a:Int),.int .i64 (b:Int)],X,by simp only[execOp,Act.eval,d0];go_simp,Below.refl _ _,rfl⟩
    ·obtain⟨_,_,y,x,d0,hvx,hxx⟩:=hdep 11 (by omega) (by kernel_rfl)
     replace d0:a'.tmps.getD 44 undef = .tuple #[y,.agg #[.int .i64 x.num,.int .i64 (x.depth:Int)]]:=d0
     exact .inl ⟨_,X,by simp only[execOp,Act.eval,d0];go_simp,Below.refl _ _,y,x,rfl,hvx,hxx⟩
    ·obtain⟨_,_,y,x,d0,hvx,hxx⟩:=hdep 12 (by omega) (by kernel_rfl)
     replace d0:a'.tmps.getD 32 undef = .tuple #[y,.agg #[.int .i64 x.num,.int .i64 (x.depth:Int)]]:=d0
     exact .inl ⟨y,X,by simp only[execOp,Act.eval,d0];go_simp,Below.refl _ _,trivial⟩
    ·refine .inl ⟨.pointer (some ⟨X.heap.size,0,none⟩),X.alloc (.cells #[.int .i64 0,.int .i64 0] 35),by kernel_rfl,(Below.refl _ _).alloc (Nat.le_refl _) _,rfl,by simp,⟨by simp[go_sem],by simp[go_sem]⟩,fun j hj=>?_⟩
     have:j=0\/j=1:=by omega
     rcases this with rfl|rfl<;>simp[go_sem]
   ·intro op ho a' X hfX hIX hfar hdep
    simp at ho
    subst ho
    obtain⟨_,_,d0⟩:=hdep 0 (by omega) (by kernel_rfl)
    obtain⟨_,_,d1⟩:=hdep 1 (by omega) (by kernel_rfl)
    obtain⟨_,_,d2⟩:=hdep 2 (by omega) (by kernel_rfl)
    obtain⟨_,_,d3⟩:=hdep 3 (by omega) (by kernel_rfl)
    obtain⟨_,_,d4⟩:=hdep 10 (by omega) (by kernel_rfl)
    replace d0:a'.tmps.getD 33 undef = .pointer (some ⟨t.bt,0,none⟩):=d0;replace d1:a'.tmps.getD 34 undef = .slice A t.h ca:=d1;replace d2:a'.tmps.getD 35 undef = .slice B t.h cb:=d2;replace d3:a'.tmps.getD 36 undef = .agg #[.int .i64 v,.int .i64 o]:=d3;replace d4:a'.tmps.getD 43 undef = .agg #[.int .i64 (a:Int),.int .i64 (b:Int)]:=d4
    refine .inr ⟨123,#[.pointer (some ⟨t.bt,0,none⟩),.slice A t.h ca,.slice B t.h cb,.agg #[.int .i64 v,.int .i64 o],.agg #[.int .i64 (a:Int),.int .i64 (b:Int)]],by simp only[execOp,Act.eval,d0,d1,d2,d3,d4];go_simp,?_⟩
    refine (CB.out false A B ca cb X hIX ((HA0.out.frm HF.out.f).frm hfX) hca ((HB0.out.frm HF.out.f).frm hfX) hcb).mono ?_
    rintro e X' ⟨y,x,rfl,hvx,hI',hf',him⟩
    rw[<- HOB.out,<- HFB.out]at hI';rw[<- HOB.out,<- HFB.out]at him
    refine⟨_,rfl,hf',hI',y,x,rfl,hvx,fun h=>?_⟩
    obtain⟨_,_,_,_,_,h5,_⟩:=him h
    rw[HOX.out,h5];rfl
   intro u X lo hh hfX hIX hg hd
   have g0:u 0 = .pointer (some ⟨t.bt,0,none⟩):=(hg 0 (by omega)).1
   have g1:u 1 = .slice A t.h ca:=(hg 1 (by omega)).1
   have g2:u 2 = .slice B t.h cb:=(hg 2 (by omega)).1
   have g3:u 3 = .agg #[.int .i64 v,.int .i64 o]:=(hg 3 (by omega)).1
   have g4:u 4 = .pointer (some ⟨t.bt,0,none⟩):=(hg 4 (by omega)).1
   have g5:u 5 = .pointer (some ⟨t.bt,0,none⟩):=(hg 5 (by omega)).1
   have g6:u 6 = .pointer (some ⟨t.bt,8,none⟩):=(hg 6 (by omega)).1
   have g7:u 7 = .slice (some ⟨rbk,ro,none⟩) t.nr t.cr:=(hg 7 (by omega)).1
   have g8:u 8 = .int .i64 (k:Int):=(hg 8 (by omega)).1
   have g9:u 9 = .pointer (some ⟨rbk,ro+k*2,none⟩):=(hg 9 (by omega)).1
   have g10:u 10 = .agg #[.int .i64 (a:Int),.int .i64 (b:Int)]:=(hg 10 (by omega)).1
   obtain⟨⟨xn,xd⟩,g14,hvx,hxx⟩:rolG t A B ca cb v o rbk ro t.cr k a b f2 ox 14 (u 14) (lo 14) (hh 14) X:=(hg 14 (by omega)).1
   obtain⟨g15,l15,⟨k15,k15'⟩,f15⟩:rolG t A B ca cb v o rbk ro t.cr k a b f2 ox 15 (u 15) (lo 15) (hh 15) X:=(hg 15 (by omega)).1
   have hlo:wr.heap.size<=lo 15:=(hg 15 (by omega)).2.1
   have hhi:hh 15<=X.heap.size:=(hg 15 (by omega)).2.2.2
   clear hg hd;obtain⟨b12,hb12⟩:∃b12,b12=lo 15:=⟨_,rfl⟩;rw[<- hb12]at g15 l15 k15 k15' f15 hlo
   have fa0:=f15 0 (by omega)
   have fa1:=f15 1 (by omega)
   have kz:=World.block_lt_of_cell? X _ k15;have HVX:=h_ hvx;have HXX:=h_ hxx
   simp only[List.drop_succ_cons,List.drop_zero,putV,g0,g1,g2,g3,g4,g5,g6,g7,g8,g9,g10,g14,g15,Act.put]
   clear g0 g1 g2 g3 g4 g5 g6 g7 g8 g9 g10 g14 g15 hb12 f15 hvx hxx
   have HLT:=h_ fun (j:Nat) (hj:vx.ownBlock=some j)=>World.ownsRow.lt HO.out j hj
   have hwr2:w.heap.size+2<=wr.heap.size:=HF.out.z;have HSZ:=h_ (Nat.le_trans hlo (Nat.le_of_lt kz));obtain⟨Y2,hY2⟩:∃Y2,Y2=(X.setCell ⟨b12,0,none⟩ (.int .i64 xn)).setCell ⟨b12,1,none⟩ (.int .i64 (xd:Int)):=⟨_,rfl⟩
   have hfs:Frm (fun j=>j=b12) X Y2:=by rw[hY2];exact (Frm.set _ _ _ _).trans (Frm.set _ _ _ _)
   have hzY:Y2.heap.size=X.heap.size:=by rw[hY2];simp
   have HROW:Hid ((Y2.alloc (.cells #[.int .i64 xn,.int .i64 (xd:Int)] 35)).ownsRow (w.heap.size+2) 35 2 vx xs.length (exC xs)):=
    row_alloc (hfs.row (hfX.row HO.out fun j hj=>(HNS.out j (by have:=(HLT.out j hj).1;omega)).1) fun j hj h=>by have:=(HLT.out j hj).2;omega) _
   have hTN:Hid (∀j u,[Value.int .i64 xn,.int .i64 (xd:Int)][j]? = some u->(Y2.alloc (.cells #[.int .i64 xn,.int .i64 (xd:Int)] 35)).cell? ((⟨X.heap.size,0,none⟩:Addr).add j)=some u):=by
    have h:=gE Y2 xn (xd:Int) 35;rw[hzY]at h
    exact h
   rw[hY2]at HROW hTN
   go_wp2_with (at_builtin;(refine wpList_append_own_at _ rfl _ _ 29 rfl (w.heap.size+2) 35 i0 (.agg #[.int .i64 0,.int .i64 0]) 2 16 Tryz.underlying29 hi iz0 iz1 iz2 rfl (by decide) _ _ _ rfl HROW.out ⟨X.heap.size,0,none⟩ 1 1 [.int .i64 xn,.int .i64 (xd:Int)] rfl rfl hTN.out (dB _ _) (by have:=HXK.out;unfold maxLen;omega) (by have:=HXK.out;omega) (by simp;omega) ?_);intro v' w4 hown hgrow _ hat)
   have HF5:Hid (FrS t.S w w4 [[.int .i64 v,.int .i64 o],[.int .i64 0,.int .i64 0]]):=by
    have h:=(((HF.out.frm hfX).out hfs fun j hj=>by rw[hj];show w.heap.size+2<=b12;omega).alloc (.cells #[.int .i64 xn,.int .i64 (xd:Int)] 35))
    rw[hY2]at h
    exact h.out (Frm.of_grown hgrow) fun j hj=>(HLT.out j hj.symm).1
   have HI5:Hid (TbI t f2 w4):=by
    have h:=((hIX.out hfs (fun j hj=>by rw[hj];exact (HNS.out b12 (by omega)).1) fun j hj=>by rw[hj];exact (HNS.out b12 (by omega)).2).alloc (.cells #[.int .i64 xn,.int .i64 (xd:Int)] 35))
    rw[hY2]at h
    exact h.out (Frm.of_grown hgrow) (fun j hj=>(HNS.out j (by have:=(HLT.out j hj.symm).1;omega)).1) fun j hj=>(HNS.out j (by have:=(HLT.out j hj.symm).1;omega)).2
   have HO5:Hid (OwnE w4 (w.heap.size+2) v' (xs++[⟨xn,xd⟩])):=by
    unfold Hid OwnE;rw[kG,List.length_append]
    exact hown
   have HL5:Hid ((xs++[(⟨xn,xd⟩:E)]).length=k+1):=by unfold Hid;rw[List.length_append,HXK.out];rfl
   have HV5:Hid (∀x∈xs++[(⟨xn,xd⟩:E)],Val (sq t.s) x):=fun x hx=>by
    rcases List.mem_append.1 hx with h|h
    ·exact HXV.out x h
    ·rw[List.mem_singleton.1 h];exact HVX.out
   have HA5:Hid (f2=false->allS (mroll t.s t.ru own other (v,o)) ((ad t.s).take (k+1))=some (xs++[⟨xn,xd⟩])):=fun h=>HXN.out _ (HXX.out h)
   clear hown hgrow hat HROW hTN hfs hY2 hzY hfX hIX k15 k15' fa0 fa1 kz HF HI HO
   go_wp2_with (fail)
   go_roundw
   case rel=>exact⟨k+1,xs++[⟨xn,xd⟩],f2,by omega,by go_num,⟨HFN.out,HL5.out,HV5.out,HA5.out⟩,⟨_,rfl,HO5⟩,HF5,HI5⟩
   case measure=>(simp[intOf])<;>omega
  case zb=>
   subst hfl
   have HALL:Hid (allS (mroll t.s t.ru own other (v,o)) (ad t.s)=some xs):=by
    have h:=HX.out.2.2.2 rfl
    rwa [List.take_of_length_le (by rw[HR.out];omega)]at h
   have HRE:Hid (rol t.s t.ru own other (v,o)=meanE (sq t.s) (ad t.s) xs):=by
    unfold Hid
    rw[HROL.out,HALL.out];rfl
   obtain⟨Av,cv,hvx,hel,_⟩:=HO.out.el
   have hxl:xs.length=t.nr:=by rw[HXK.out,hke]
   rw[hxl]at hvx hel;subst hvx
   have MEAN2:=h_ fun (W:World) (hW:Frm (fun _=>False) wr W)=>MEAN.out W Av cv xs ⟨hel.1,hel.2.frm (hW.mono fun _ h=>h.elim)⟩ HX.out.2.2.1
   clear hel hxl HX HALL;generalize meanE (sq t.s) (ad t.s) xs=om at *;have e0:=HI.out.tb 0 _ rfl;have e1:=HI.out.tb 1 _ rfl;have e2:=HI.out.tb 2 _ rfl;have e3:=HI.out.tb 3 _ rfl;obtain⟨z0,c00,f00,c01,f01,z1,c10,f10,c11,f11⟩:=HF.out.xf4
   go_wp2_with (fail)
   clear z0 c00 f00 c01 f01 z1 c10 f10 c11 f11;clear e0 e1 e2 e3 e8 ea
   refine (MEAN2.out wr (Frm.refl _ _)).mono ?_
   rintro e w5 ⟨rfl,hb5⟩
   have HF5:=h_ (HF.out.below hb5);have HI5:=h_ (HI.out.below hb5);have e11:=HI5.out.fa;have f11':=HI5.out.ff;have hbt5:=HI5.out.ltB
   have n1:¬t.bt=w5.heap.size:=by omega
   have n2:¬w5.heap.size=t.bt:=by omega
   have hwr2:w.heap.size+2<=wr.heap.size:=HF.out.z
   have n3:¬w.heap.size=w5.heap.size:=by have:=hb5.size;omega
   have n4:¬w.heap.size+1=w5.heap.size:=by have:=hb5.size;omega
   have n5:¬w5.heap.size=w.heap.size+1:=by have:=hb5.size;omega
   have hz2:w.heap.size+2<=w5.heap.size:=by have:=hb5.size;omega
   clear HI HF HO hb5 MEAN2 MEAN
   rcases om with _|⟨mn,md⟩
   ·simp only[Option.getD_none,Option.isSome_none]
    have hfk:Frm t.S w5 (w5.setCell ⟨t.bt,11,none⟩ (.bool true)):=(Frm.set _ _ _ _).mono fun k hk=>.inl hk
    have HFk:=h_ (HF5.out.frm hfk);have HIk:=h_ HI5.out.fail;clear hfk;obtain⟨z0,c00,f00,c01,f01,z1,c10,f10,c11,f11⟩:=HF5.out.xf4
    go_wp2_with (fail)
    clear z0 c00 f00 c01 f01 z1 c10 f10 c11 f11;generalize w5.setCell ⟨t.bt,11,none⟩ (.bool true)=X5 at *;obtain⟨z0,c00,f00,c01,f01,z1,c10,f10,c11,f11⟩:=HFk.out.xf4
    refine bodyPost_ret (v:=.agg #[.int .i64 0,.int .i64 0]) (by simp[results,Tryz.results112,go_sem,c10,c11,z1,f10,f11]) rfl ?_
    refine⟨⟨0,0⟩,rfl,eL,?_,?_,fun h=>by rw[HRE.out]at h;cases h⟩
    ·refine TbI.eqf ?_ (show true=(false||(rol t.s t.ru own other (v,o)).isNone) by rw[HRE.out];rfl)
     repeat (first|exact HIk.out|refine TbI.alloc ?_ _|refine TbI.stored ?_ _ (HNS.out _ (by omega)).1 (HNS.out _ (by omega)).2)
    ·repeat (first|exact HFk.out.f|refine Frm.alloc ?_ _|refine Frm.ownSet ?_ (by omega) _)
   ·simp only[Option.getD_some,Option.isSome_some]
    obtain⟨z0,c00,f00,c01,f01,z1,c10,f10,c11,f11⟩:=HF5.out.xf4
    go_wp2_with (fail)
    refine bodyPost_ret (v:=.agg #[.int .i64 mn,.int .i64 (md:Int)]) (by simp[results,Tryz.results112,go_sem,c10,c11,z1,f10,f11]) rfl ?_
    refine⟨⟨mn,md⟩,rfl,ew hq1 HRE.out,?_,?_,fun _=>HRE.out⟩
    ·refine TbI.eqf ?_ (show false=(false||(rol t.s t.ru own other (v,o)).isNone) by rw[HRE.out];rfl)
     repeat (first|exact HI5.out|refine TbI.alloc ?_ _|refine TbI.stored ?_ _ (HNS.out _ (by omega)).1 (HNS.out _ (by omega)).2)
    ·repeat (first|exact HF5.out.f|refine Frm.alloc ?_ _|refine Frm.ownSet ?_ (by omega) _)
theorem rolT_fuel (t:WT) (ht:t.Ok):∀(f:Nat) {own other:List Int},PosP t.h t.c own->PosP t.h t.c other->own.sum≠0->(pips own+pips other).toNat<f->∀c,CbOk t.K c->RolT t own other c
 | 0,own,other,hq,hq2,_,h,_,_=>by have:=aC hq.2.1;have:=aC hq2.2.1;omega
 | f + 1, own, other, hq, hq2, h0, h, c, hc => by
   have h1 := aC hq.2.1; have h2 := aC hq2.2.1
   exact l17Roll_any t ht hq hq2 h0 hc fun q hp hlt => by
     have h3 := aC hp.2.1
     exact gh t ht hq2 hp hc.swp fun k0 _ cc hcc => rolT_fuel t ht f hq2 hp k0 (by omega) cc hcc
theorem rolT_all (t:WT) (ht:t.Ok) {own other:List Int} (hq:PosP t.h t.c own) (hq2:PosP t.h t.c other) (h0:own.sum≠0) {c:Cb} (hc:CbOk t.K c):RolT t own other c:=by
 have h1:=aC hq.2.1;have h2:=aC hq2.2.1
 exact rolT_fuel t ht ((pips own+pips other).toNat+1) hq hq2 h0 (by omega) c hc
theorem eqT_all (t:WT) (ht:t.Ok) {own other:List Int} (hq:PosP t.h t.c own) (hq2:PosP t.h t.c other) {c:Cb} (hc:CbOk t.K c):EqT t own other c:=gh t ht hq hq2 hc fun h0 _ cc hcc=>rolT_all t ht hq hq2 h0 hcc
theorem aftT_all (t:WT) (ht:t.Ok) {own other:List Int} (hq:PosP t.h t.c own) (hq2:PosP t.h t.c other) (h0:own.sum≠0) {c:Cb} (hc:CbOk t.K c) {a b:Nat} (h1:1<=b) (h2:b<=a) (h3:a<=t.s):AftT t own other c a b:=
 ia t ht hq hc a b h1 h2 h3 fun q hqm=>eqT_all t ht hq2 (aN (by omega) h1 hq q hqm).1 hc.swp
open Go.RowKit Mo Ps Ra Ex
theorem l17Both_any (p c h s m:Int) (b j:Bool) (A B:Option Addr) (n k ca cb:Nat) (own other:List Int) (v o:Int) (w:World) (hA:SL w A n own) (hB:SL w B k other):
  Calls Tryz.prog 111 #[.agg #[.int .i64 p,.int .i64 c,.int .i64 h,.int .i64 s],.agg #[.int .i64 m,.bool b,.bool j],.slice A n ca,.slice B k cb,.agg #[.int .i64 v,.int .i64 o]] w fun e w'=>e = .returned (.int .i64 (codeM p c h s m own other v o true))/\Below w.heap.size w w':=by
 have HB:Hid (Below w.heap.size w (((w.alloc (.cells #[.int .i64 p,.int .i64 c,.int .i64 h,.int .i64 s] 25)).alloc (.cells #[.int .i64 m,.bool b,.bool j] 53)).alloc (.cells #[.int .i64 v,.int .i64 o] 55))):=(((Below.refl _ _).alloc (Nat.le_refl _) _).alloc (by simp) _).alloc (by simp;omega) _
 have HX:=h_ (hA.below HB.out);have HY:=h_ (hB.below HB.out);have HAL:=h_ hA.1;have HBL:=h_ hB.1;have CK:=h_ (iX p c h s m b j A B n k ca cb own other v o _ HX.out HY.out);clear hA hB
 by_cases hcl:codeL p c h s m own other v o true=0
 ·obtain⟨hv,hr,hp1,hp2,hcu,_,hgi⟩:=dq hcl
  have hvv:=aj hv;have HP1:=h_ (kh hp1);have HP2:=h_ (kh hp2)
  have hn:n<=2000000:=by have:=HAL.out;have:=HP1.out.1;omega
  have hk:k<=2000000:=by have:=HBL.out;have:=HP2.out.1;omega
  have TOA:=h_ fun (W:World) (hx:SL W A n own)=>ct A n ca own W hx HP1.out.2.1 hn
  have TOB:=h_ fun (W:World) (hx:SL W B k other)=>ct B k cb other W hx HP2.out.2.1 hk
  have HRB:Hid (codeM p c h s m own other v o true=if (decide (own.sum=0)||decide (other.sum=0))=true then 5 else 0):=by
   unfold Hid codeM;rw[if_pos hcl];simp
  rw[hcl]at CK;clear hcl hv hr hp1 hp2 hcu hgi hvv HP1 HP2 hn hk HAL HBL
  rcases b1:decide (own.sum=0) with _|_
  all_goals
   rcases b2:decide (other.sum=0) with _|_
   all_goals
    have HR:=HRB;rw[b1,b2]at HR;rw[b1]at TOA;rw[b2]at TOB
    simp only[Bool.or_true,Bool.or_false,Bool.or_self,Bool.true_or,Bool.false_or,if_true,if_false,Bool.false_eq_true]at HR
    clear HRB b1 b2
    go_enter Tryz.func111,Tryz.ntmps111
    go_wp2_with (first
     | (go_at_call 105;(with_reducible refine (more_first CK.out).mono ?_);rintro e w' ⟨rfl,t,rfl⟩)
     | (go_at_call_of 106 A;(refine (TOA.out _ (HX.out.more _)).mono ?_);rintro e w' ⟨rfl,rfl⟩)
     | (go_at_call_of 106 B;(refine (TOB.out _ (HY.out.more _)).mono ?_);rintro e w' ⟨rfl,rfl⟩))
    go_ret
    exact⟨by rw[HR.out];rfl,by first|exact blw HB.out (Nat.le_refl _)|exact HB.out⟩
 ·have HR:Hid (codeM p c h s m own other v o true=codeL p c h s m own other v o true):=by unfold Hid codeM;rw[if_neg hcl]
  generalize codeM p c h s m own other v o true=kk2 at *;generalize codeL p c h s m own other v o true=kk at *
  have b0:(kk == 0)=false:=by simp[hcl]
  clear hcl
  go_enter Tryz.func111,Tryz.ntmps111
  go_wp2_with (go_at_call 105;(with_reducible refine (more_first CK.out).mono ?_);rintro e w' ⟨rfl,t,rfl⟩)
  go_ret
  exact⟨by rw[HR.out];rfl,by first|exact blw HB.out (Nat.le_refl _)|exact HB.out⟩
theorem iM (p c h s m:Int) (bv j:Bool) (A B:Option Addr) (n k ca cb:Nat) (own other:List Int) (v o:Int) (w:World) (hA:SL w A n own) (hB:SL w B k other) (hca:n<=ca) (hcb:k<=cb):
  Calls Tryz.prog 35 #[.agg #[.int .i64 p,.int .i64 c,.int .i64 h,.int .i64 s],.agg #[.int .i64 m,.bool bv,.bool j],.slice A n ca,.slice B k cb,.agg #[.int .i64 v,.int .i64 o]] w (RetN w (rlR p c h s m bv own other v o)):=by
 have HF0:Hid (Fr w ((((w.alloc (.cells #[.int .i64 p,.int .i64 c,.int .i64 h,.int .i64 s] 25)).alloc (.cells #[.int .i64 m,.bool bv,.bool j] 53)).alloc (.cells #[.int .i64 v,.int .i64 o] 55)).alloc (.cells #[.int .i64 0,.int .i64 0] 35)) [[.int .i64 p,.int .i64 c,.int .i64 h,.int .i64 s],[.int .i64 m,.bool bv,.bool j],[.int .i64 v,.int .i64 o],[.int .i64 0,.int .i64 0]]):=((((Fr.start w).allocT (by simp) _ _).allocT (by simp) _ _).allocT (by simp) _ _).allocT (by simp) _ _
 have HA0:=h_ (hA.below HF0.out.b);have HB0:=h_ (hB.below HF0.out.b);have HAL:=h_ hA.1;have HBL:=h_ hB.1;have CK:=h_ (l17Both_any p c h s m bv j A B n k ca cb own other v o _ HA0.out HB0.out);clear hA hB
 by_cases hcm:codeM p c h s m own other v o true=0
 focus
  obtain⟨hcl,hz1,hz2⟩:=gu hcm
  rw[hcm]at CK;obtain⟨hv,hr,hp1,hp2,hcu,_,hgi⟩:=dq hcl;have hvv:=aj hv;obtain⟨K,hK,rfl⟩:=dh hr
  obtain⟨c',rfl⟩:∃c':Nat,c=c':=⟨c.toNat,by omega⟩
  obtain⟨h',rfl⟩:∃h':Nat,h=h':=⟨h.toNat,by omega⟩
  obtain⟨s',rfl⟩:∃s':Nat,s=s':=⟨s.toNat,by omega⟩
  rw[d7 hK]at hgi;obtain⟨hN,_⟩:=eV hgi;have HP1:=h_ (bA hp1);have HP2:=h_ (bA hp2);have hcb0:=gN hcu
  have hnh:h'=n:=by rw[<- HAL.out];exact (HP1.out.1).symm
  have hmh:h'=k:=by rw[<- HBL.out];exact (HP2.out.1).symm
  subst hnh;subst hmh
  have CNEW:=h_ fun (W:World)=>jJ p c' h' s' K bv j W hv hK hgi
  obtain⟨ov,hov⟩:∃ov,ov=rol s' ⟨two K,bv⟩ own other (v,o):=⟨_,rfl⟩
  have HWR:Hid (rlR p c' h' s' (two K) bv own other v o=numR ov):=by
   unfold Hid rlR;rw[if_pos hcm,hov]
   simp only[Int.toNat_natCast]
  have HALL:Hid (∀(t:WT),t.c=c'->t.h=h'->t.s=s'->t.K=K->t.bv=bv->t.Ok->∀W:World,TbI t false W->SQ t.S W A h' own->SQ t.S W B h' other->Calls Tryz.prog 112 #[.pointer (some ⟨t.bt,0,none⟩),.slice A h' ca,.slice B h' cb,.agg #[.int .i64 v,.int .i64 o]] W (fun e w'=>∃x:E,e = .returned (.agg #[.int .i64 x.num,.int .i64 (x.depth:Int)])/\TbI t ov.isNone w'/\Frm t.S W w'/\(ov.isNone=false->ov=some x))):=by
   intro t e1 e2 e3 e4 e5 hok W hI h1 h2
   subst e1 e2 e3 e4 e5;rw[hov]
   refine (rolT_all t hok HP1.out HP2.out hz1 hcb0 false A B ca cb W hI h1 hca h2 hcb).mono ?_
   rintro e w' ⟨x,rfl,_,h3,h4,h5⟩
   exact⟨x,rfl,h3,h4,h5⟩
  clear hcm hcl hv hr hp1 hp2 hcu hvv hov HAL HBL;generalize rlR p c' h' s' (two K) bv own other v o=rr at *
  refine ?za
 rotate_left
 focus
  have HWR:Hid (rlR p c h s m bv own other v o=(0,0,codeM p c h s m own other v o true)):=by
   unfold Hid rlR;rw[if_neg hcm]
  generalize codeM p c h s m own other v o true=kk at *
  have b0:(kk != 0)=true:=by simp[hcm]
  clear hcm
  refine ?zb
 rotate_left
 case' za|zb=>
  go_enter Tryz.func35,Tryz.ntmps35
  go_wp2_with (fail)
  refine CK.out.mono ?_
  rintro e w1 ⟨rfl,hb1⟩
  have HFX:=h_ (HF0.out.below hb1);have HAX:=h_ (HA0.out.below hb1);have HBX:=h_ (HB0.out.below hb1);clear CK hb1 HF0 HA0 HB0;obtain⟨z0,c00,f00,c01,f01,c02,f02,c03,f03,z1,c10,f10,c11,f11,c12,f12,z2,c20,f20,c21,f21,z3,c30,f30,c31,f31⟩:=HFX.out.xf7
  go_wp2_with (fail)
 case' za=>
  clear z0 c00 f00 c01 f01 c02 f02 c03 f03 z1 c10 f10 c11 f11 c12 f12 z2 c20 f20 c21 f21 z3 c30 f30 c31 f31
  refine (CNEW.out _).mono ?_
  rintro e w2 ⟨t,t1,t2,t3,t4,t5,t6,rfl,hok,hI,hlow,hlowr,hb2⟩
  have HC:=h_ (HALL.out t t2 t3 t4 t5 t6 hok w2 hI ((SQ.of_sl HAX.out hlow).below hb2) ((SQ.of_sl HBX.out hlow).below hb2));have HLOW:=h_ hlow;have HF3:=h_ (HFX.out.below hb2)
  have hz1:w.heap.size+4<=w1.heap.size:=by have:=HFX.out.z;simpa using this
  have hbt:=hI.ltB;clear t1 t2 t3 t4 t5 t6 hok hI hlow hlowr hb2 HAX HBX CNEW HALL HFX;obtain⟨z0,c00,f00,c01,f01,c02,f02,c03,f03,z1,c10,f10,c11,f11,c12,f12,z2,c20,f20,c21,f21,z3,c30,f30,c31,f31⟩:=HF3.out.xf7
  go_wp2_with (fail)
  clear z0 c00 f00 c01 f01 c02 f02 c03 f03 z1 c10 f10 c11 f11 c12 f12 z2 c20 f20 c21 f21 z3 c30 f30 c31 f31
  refine HC.out.mono ?_
  rintro e w3 ⟨⟨xn,xd⟩,rfl,hI3,hf3,him⟩
  have HF4:Hid (Fr w w3 [[.int .i64 p,.int .i64 c',.int .i64 h',.int .i64 s'],[.int .i64 (two K),.bool bv,.bool j],[.int .i64 v,.int .i64 o],[.int .i64 0,.int .i64 0]]):=HF3.out.frm hf3 (fun k hk=>by have:=HLOW.out k hk;omega) (fun k hk=>by have:=HLOW.out k hk;simp;omega)
  have e11:=hI3.fa;have hbt3:=hI3.ltB;have hbt0:w1.heap.size<=t.bt:=HLOW.out _ (.inl rfl)
  have n1:¬t.bt=w3.heap.size:=by omega
  have n2:¬w3.heap.size=t.bt:=by omega
  have hz3:w.heap.size+4<=w3.heap.size:=by have:=HF4.out.z;simpa using this
  have n3:¬w3.heap.size=w.heap.size+1+1+1:=by omega
  have n4:¬w.heap.size+1+1+1=w3.heap.size:=by omega
  have n5:¬t.bt=w.heap.size+1+1+1:=by omega
  have n6:¬w.heap.size+1+1+1=t.bt:=by omega
  clear hf3 HF3 HC HLOW hI3 hbt
  rcases ov with _|y
  focus
   have HRR:Hid (rr=(0,0,3)):=HWR.out
   simp only[Option.isNone_none]at e11
   refine ?zd
  rotate_left
  focus
   obtain rfl:y=⟨xn,xd⟩:=by have:=him rfl;injection this
   have HRR:Hid (rr=(xn,(xd:Int),0)):=HWR.out
   simp only[Option.isNone_some]at e11
   refine ?zc
 case zb=>
  refine bodyPost_ret (v:=.tuple #[.agg #[.int .i64 0,.int .i64 0],.int .i64 kk]) (by simp[results,Tryz.results35,go_sem,c30,c31,z3,f30,f31]) rfl (RetN.mk' HWR.out ?_)
  repeat (first|exact HFX.out.b|refine stw ?_ (by omega)|refine alw ?_ (by omega))
 case' zc|zd=>
  clear him;obtain⟨z0,c00,f00,c01,f01,c02,f02,c03,f03,z1,c10,f10,c11,f11,c12,f12,z2,c20,f20,c21,f21,z3,c30,f30,c31,f31⟩:=HF4.out.xf7
  go_wp2_with (fail)
 case' zc=>
  refine bodyPost_ret (v:=.tuple #[.agg #[.int .i64 xn,.int .i64 (xd:Int)],.int .i64 0]) (by simp[results,Tryz.results35,go_sem,c30,c31,z3,f30,f31]) rfl (RetN.mk' HRR.out ?_)
 case' zd=>
  refine bodyPost_ret (v:=.tuple #[.agg #[.int .i64 0,.int .i64 0],.int .i64 3]) (by simp[results,Tryz.results35,go_sem,c30,c31,z3,f30,f31]) rfl (RetN.mk' HRR.out ?_)
 case zc|zd=>
  repeat (first|exact HF4.out.b|refine stw ?_ (by omega)|refine alw ?_ (by omega))
end Go.Proofs.YtkaiilmgemaljaaGreat

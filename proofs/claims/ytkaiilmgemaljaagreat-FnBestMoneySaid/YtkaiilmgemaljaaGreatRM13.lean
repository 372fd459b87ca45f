/- Part of one proof. There are no conditions. -/
import Derived.Test.YtkaiilmgemaljaaGreatRM12
set_option maxHeartbeats 0
set_option linter.unusedVariables false
set_option linter.unusedSimpArgs false
set_option maxRecDepth 100000
namespace Go.Proofs.YtkaiilmgemaljaaGreat
open Go.RowKit Ps Ra Ex Go.Maps Mo
def BstC (m:MT) (own other:List Int) (c:Cb) (i a b:Nat):Prop:=∀(T:Nat->Prop) (A B:Option Addr) (ca cb:Nat) (w:World),(∀k,w.heap.size<=k->¬T k)->MonI m T w->SQ T w A m.t.h own->m.t.h<=ca->SQ T w B m.t.h other->m.t.h<=cb->
 Calls Tryz.prog 114 #[.pointer (some ⟨m.bm,0,none⟩),.slice A m.t.h ca,.slice B m.t.h cb,.agg #[.int .i64 c.1,.int .i64 c.2],.int .i64 (i:Int)] w (RetMB m T w (resultsL own a b) (bestS (sq m.t.s) (neqv m.t.s m.ru other c) (resultsL own a b)))
def BestJ (m:MT) (T:Nat->Prop) (w:World) (v o:Int) (A:Option Addr) (n:Nat) (l:List (List Int)) (k a:Nat) (x:E) (u:Value) (wr:World):Prop:=
 FrS m.S w wr [[.int .i64 v,.int .i64 o],[.int .i64 0,.int .i64 0],[.int .i64 x.num,.int .i64 (x.depth:Int)]]/\MonI m (ownT T w 3) wr/\PL (ownT T w 3) wr A n l/\BestV (ownT T w 3) wr m.t.h k a l u
theorem mbest_any (m:MT) (hm:m.Ok) {own other:List Int} (hq:PosP m.t.h m.t.c own) (hs0:own.sum≠0) {c:Cb} (hc:CbOk m.K c) (i a b:Nat) (hi:i<m.t.nr) (hab:(ad m.t.s).getD i (0,0)=(a,b)) (heq:∀q∈resultsL own a b,EqvC m other q (swp c)):BstC m own other c i a b:=by
 intro T A B ca cb w hT hI hA hca hB hcb
 obtain⟨v,o⟩:=c;have hcv:1<=v/\v<=1024/\0<=o/\o<=2:=hc.v1 hm.k;have ht:=hm.t;have hv:=aj ht.v
 have hs1:1<=m.t.s:=by omega
 have hs6:m.t.s<=6:=by omega
 have hh24:m.t.h<=24:=by omega
 have hh1:0<m.t.h:=by omega
 obtain⟨hq1,hq36,_⟩:=sq_bd hs1 hs6;have hlow:=hI.ltS;have HSUB:=h_ hI.sub
 have HNS:Hid (∀j,¬m.S (w.heap.size+j)):=fun j h=>by have:=hlow _ h;omega
 have hr:=bJ.1 (ao (ad m.t.s) (0,0) (k:=i) (by rw[ht.r];exact hi))
 rw[hab]at hr;obtain⟨r1,r2,r3⟩:=hr
 simp only at r1 r2 r3
 have HRP:Hid (∀q∈resultsL own a b,PosP m.t.h m.t.c q):=fun q h=>(aN (by omega) r1 hq q h).1
 have HF0:Hid (FrS m.S w (((w.alloc (.cells #[.int .i64 v,.int .i64 o] 55)).alloc (.cells #[.int .i64 0,.int .i64 0] 35)).alloc (.cells #[.int .i64 0,.int .i64 0] 35)) [[.int .i64 v,.int .i64 o],[.int .i64 0,.int .i64 0],[.int .i64 0,.int .i64 0]]):=(((FrS.start w hlow).allocT (by simp) _ _).allocT (by simp) _ _).allocT (by simp) _ _
 have hb0:Below w.heap.size w (((w.alloc (.cells #[.int .i64 v,.int .i64 o] 55)).alloc (.cells #[.int .i64 0,.int .i64 0] 35)).alloc (.cells #[.int .i64 0,.int .i64 0] 35)):=(((Below.refl _ _).alloc (Nat.le_refl _) _).alloc (by simp) _).alloc (by simp;omega) _
 have HI0:=h_ ((hI.wide 3).below hb0)
 have CRS:=h_ (kd m.t ht (ownT T w 3) A ca own _ (dW hT (by simp)) HI0.out.ra ((hA.wide 3).below hb0) hca hq)
 have HB0:=h_ ((hB.wide 3).below hb0)
 have HTN:Hid (∀W:World,w.heap.size+3<=W.heap.size->∀k,W.heap.size<=k->¬ownT T w 3 k):=fun W hz=>dW hT hz
 have HEQ:=h_ heq
 have HGET:Hid ((rsl m.t.s own).getD i []=resultsL own a b):=by
  unfold Hid rsl
  rw[getD_map _ _ (0,0) _ (by rw[ht.r];exact hi),hab]
 have HSV:Hid (∀(q:List Int) (x:E),neqv m.t.s m.ru other (v,o) q=some x->Val (sq m.t.s) x):=fun q x h=>ko hq1 (by show -100000<=v;omega) (by show v<=100000;omega) h
 have HEV:Hid (∀(q:List Int) (x:E),eqv m.t.s m.ru other q (swp (v,o))=some x->Val (sq m.t.s) x):=fun q x h=>kH hq1 (by rw[iF];show -100000<=v;omega) (by rw[iF];show v<=100000;omega) h
 have HNE':Hid (∀q,neqv m.t.s m.ru other (v,o) q=(eqv m.t.s m.ru other q (swp (v,o))).map negE):=fun q=>rfl
 have HRN:=h_ (rsl_len m.t.s own);have HR:=h_ ht.r
 have hnr21:m.t.nr<=21:=by rw[<- ht.r];exact ch hs6
 have hlen:(resultsL own a b).length<=1000000:=Nat.le_trans (fA (by omega) r1 hq hh24) (by omega)
 have HLEN:=h_ hlen
 have hii:(i:Int)<(m.t.nr:Int):=by omega
 have hii0:(0:Int)<=(i:Int):=by omega
 have SW:=h_ fun (W:World)=>eJ v o W
 have e0:=HI0.out.tb 0 _ rfl;have hbm:=HI0.out.ltB;clear hT hI hA hB hv hlow hb0 hq heq hab r1 r2 r3 hlen ht hm hc;generalize resultsL own a b=L at *;generalize hTT:ownT T w 3=T' at *
 go_enter Tryz.func114,Tryz.ntmps114
 go_wp2_with (fail)
 refine CRS.out.mono ?_
 rintro e w1 ⟨u,rfl,⟨Au,nu,cu,rfl,hrs,hcu⟩,hI1,hf1⟩
 have hnu:nu=m.t.nr:=by rw[<- hrs.1,HRN.out,HR.out]
 subst hnu
 obtain⟨bu,ou,rfl,hzu,_,hcc⟩:=hrs.2 (by omega)
 obtain⟨Al,nl,cl,hcell,hpl,hcl⟩:=hcc i hi;rw[HGET.out]at hpl;have hnl:=hpl.len;have HNL:=h_ hnl
 have hnl6:nl<=1000000:=by rw[<- hnl];exact HLEN.out
 have hfM:Frm m.S _ w1:=frm_R hf1;have hI1M:MonI m T' w1:=HI0.out.race hI1 hf1;have hf01:=HF0.out.frm hfM
 have hz1:w.heap.size+3<=w1.heap.size:=by have:=hf01.z;simpa using this
 have HST:Hid (BestJ m T w v o Al nl L 0 0 ⟨0,0⟩ (.slice none 0 0) w1):=by
  unfold Hid BestJ;rw[hTT]
  exact⟨hf01,hI1M,hpl,.inl ⟨rfl,rfl⟩⟩
 have HB1:Hid (SQ T' w1 B m.t.h other):=HB0.out.frm (gr hfM hI1M.sub);have HTT:=h_ hTT;have HS1:=h_ hI1M.sub;clear hrs hcc hI1 hf1 hpl hf01 hnl CRS HF0 HB0 hTT hfM hI1M HI0 e0 hbm
 go_wp2_with (fail)
 go_loopw [13,29] (fun v13 v29 wr=>∃(k a:Nat) (xn:Int) (xd:Nat),k<=nl/\v29 = .int .i64 k/\Hid (bestS (sq m.t.s) (neqv m.t.s m.ru other (v,o)) (L.take k)=some (k,a,⟨xn,xd⟩))/\(∃vx,vx=v13/\Hid (BestJ m T w v o Al nl L k a ⟨xn,xd⟩ vx wr))/\Hid (Frm T' w1 wr)) (fun _ v29 _=>nl-(intOf v29).toNat)
 case atStart=>exact⟨0,0,0,0,by omega,rfl,rfl,⟨_,rfl,HST.out⟩,Frm.refl _ _⟩
 case round=>
  clear HST hcell hcl hzu;obtain⟨k,at',xn,xd,hk,rfl,hbs,⟨vx,rfl,hBI⟩,hfw⟩:=hrel;obtain⟨hF,hIr,hPLr,hBV⟩:=hBI.out;have HF:=h_ hF;rw[HTT.out]at hIr hPLr hBV;have HI:=h_ hIr;have HPL:=h_ hPLr;have HBV:=h_ hBV;clear hF hIr hPLr hBV hBI
  by_cases hlt:k<nl
  focus
   have hki:(k:Int)<(nl:Int):=by omega
   obtain⟨bl,ol,Bq,mq,cq,rfl,hzl,hcq,hsq,hmq⟩:=HPL.out.at hlt
   have hmem:=ao L [] (k:=k) (by rw[HNL.out];exact hlt)
   have hqp:=HRP.out _ hmem
   have hmh:m.t.h=mq:=by rw[<- hsq.1.1];exact hqp.1.symm
   subst hmh;obtain⟨bq,oq,rfl,_,_⟩:=hsq.1.2 hh1
   have hzr:w.heap.size+3<=wr.heap.size:=by have:=HF.out.z;simpa using this
   have CEQ:=h_ (HEQ.out _ hmem);have HSQ:=h_ hsq
   have HLL:Hid (k<L.length):=by unfold Hid;rw[HNL.out];exact hlt
   clear hqp hsq hmem;obtain⟨z0,c00,f00,c01,f01,z1,c10,f10,c11,f11,z2,c20,f20,c21,f21⟩:=HF.out.xf5
   go_wp2_with (go_at_call 38;(with_reducible refine (more_first (SW.out _)).mono ?_);rintro e w' ⟨rfl,tr,rfl⟩)
   clear z0 c00 f00 c01 f01 z1 c10 f10 c11 f11 z2 c20 f20 c21 f21;replace HF:=h_ (HF.out.more tr);replace HI:=h_ (HI.out.below (aa _ tr));replace HPL:=h_ (HPL.out.below (aa _ tr));replace HBV:=h_ (HBV.out.frm (Frm.of_below' _ (aa _ tr)));replace HSQ:=h_ (HSQ.out.below (aa _ tr));replace hfw:=h_ (hfw.out.trans (Frm.of_below' _ (aa _ tr)));replace hzr:=Nat.le_trans hzr (ae _ tr);clear hzl hcq;generalize more wr tr=wq at *
   refine (CEQ.out T' B (some ⟨bq,oq,none⟩) cb cq wq (HTN.out wq hzr) HI.out (HB1.out.frm hfw.out) hcb HSQ.out hmq).mono ?_
   rintro e w2 ⟨rfl,hI2,hf2⟩
   have hfT:=gr hf2 HS1.out;have HF1:=h_ (HF.out.frm hf2);have HI1:=h_ hI2;have HPL1:=h_ (HPL.out.frm hfT);have HBV1:=h_ (HBV.out.frm hfT);have HSQ1:=h_ (HSQ.out.frm hfT);have HFW1:=h_ (hfw.out.trans hfT);have hzg:w.heap.size+3<=w2.heap.size:=Nat.le_trans hzr hf2.size;clear HF HI HPL HBV HSQ hfw hI2 hf2 hfT CEQ hzr SW
   rcases hso:eqv m.t.s m.ru other (L.getD k []) (swp (v,o)) with _|⟨zn,yd⟩
   focus
    have hno:neqv m.t.s m.ru other (v,o) (L.getD k [])=none:=by rw[HNE'.out,hso];rfl
    have HR:Hid (bestS (sq m.t.s) (neqv m.t.s m.ru other (v,o)) L=none):=bestS_stop HLL.out hbs.out hno;clear hso hno;unfold exV
    simp only[Option.getD_none,Option.isSome_none]
    refine ?zg
   rotate_left
   focus
    have hvz:Val (sq m.t.s) ⟨zn,yd⟩:=HEV.out _ _ hso
    have hzb : -1000000000000000000<=zn/\zn<=1000000000000000000:=⟨hvz.1,hvz.2.1⟩
    have hso':neqv m.t.s m.ru other (v,o) (L.getD k [])=some ⟨-zn,yd⟩:=by rw[HNE'.out,hso];rfl
    have HYV:Hid (Val (sq m.t.s) ⟨-zn,yd⟩):=HSV.out _ _ hso';have HXV:Hid (Val (sq m.t.s) ⟨xn,xd⟩):=je hq1 HSV.out hbs.out
    have HGO:Hid (k=0\/ltE (sq m.t.s) ⟨xn,xd⟩ ⟨-zn,yd⟩=true->bestS (sq m.t.s) (neqv m.t.s m.ru other (v,o)) (L.take (k+1))=some (k+1,k,⟨-zn,yd⟩)):=fun h=>bestS_go HLL.out hbs.out hso' h
    have HKP:Hid (k≠0->ltE (sq m.t.s) ⟨xn,xd⟩ ⟨-zn,yd⟩=false->bestS (sq m.t.s) (neqv m.t.s m.ru other (v,o)) (L.take (k+1))=some (k+1,at',⟨xn,xd⟩)):=fun h1 h2=>jQ HLL.out hbs.out hso' h1 h2
    clear hso hso' hvz;unfold exV
    simp only[Option.getD_some,Option.isSome_some]
    refine ?zf
  rotate_left 2
  focus
   have hke:k=nl:=by omega
   have HR:Hid (bestS (sq m.t.s) (neqv m.t.s m.ru other (v,o)) L=some (k,at',⟨xn,xd⟩)):=by
    have h:=hbs.out
    rwa [List.take_of_length_le (by rw[HNL.out];omega)]at h
   obtain⟨z0,c00,f00,c01,f01,z1,c10,f10,c11,f11,z2,c20,f20,c21,f21⟩:=HF.out.xf5
   refine ?ze
  rotate_left
  case' zf|zg=>
   obtain⟨z0,c00,f00,c01,f01,z1,c10,f10,c11,f11,z2,c20,f20,c21,f21⟩:=HF1.out.xf5
   go_wp2_with (fail)
  case' zf=>
   clear z0 c00 f00 c01 f01 z1 c10 f10 c11 f11 z2 c20 f20 c21 f21;generalize -zn=yn at *;clear hzb;have HF2:Hid (FrS m.S w (w2.alloc (.cells #[.int .i64 yn,.int .i64 (yd:Int)] 35)) [[.int .i64 v,.int .i64 o],[.int .i64 0,.int .i64 0],[.int .i64 xn,.int .i64 (xd:Int)]]):=HF1.out.alloc _;have HI2:Hid (MonI m T' (w2.alloc (.cells #[.int .i64 yn,.int .i64 (yd:Int)] 35))):=HI1.out.alloc _;have hfT:Frm T' w2 (w2.alloc (.cells #[.int .i64 yn,.int .i64 (yd:Int)] 35)):=(Frm.refl _ _).alloc _;have HPL2:=h_ (HPL1.out.frm hfT);have HBV2:=h_ (HBV1.out.frm hfT);have HSQ2:=h_ (HSQ1.out.frm hfT);have HFW2:Hid (Frm T' w1 (w2.alloc (.cells #[.int .i64 yn,.int .i64 (yd:Int)] 35))):=HFW1.out.trans hfT
   have g0:(w2.alloc (.cells #[.int .i64 yn,.int .i64 (yd:Int)] 35)).cell? ⟨w2.heap.size,0,none⟩=some (.int .i64 yn):=by simp[go_sem]
   have g1:(w2.alloc (.cells #[.int .i64 yn,.int .i64 (yd:Int)] 35)).cell? ⟨w2.heap.size,1,none⟩=some (.int .i64 (yd:Int)):=by simp[go_sem]
   have gz:w2.heap.size<(w2.alloc (.cells #[.int .i64 yn,.int .i64 (yd:Int)] 35)).heap.size:=by simp
   clear hfT HF1 HI1 HPL1 HBV1 HSQ1 HFW1
   by_cases hk0:k=0
   focus
    have hvx:vx = .slice none 0 0:=by
     rcases HBV2.out with⟨_,h⟩|⟨h,_⟩
     ·exact h
     ·omega
    have HR:=h_ (HGO.out (.inl hk0));have HK0:=h_ hk0;subst hvx
    have hnil:∀W:World,(binOp .eql 26 (.slice none 0 0) (.slice none 0 0)).run Tryz.prog W = .ok (.bool true) W:=fun W=>Lib.run_eql_slice_nil (P:=Tryz.prog) W 26 2 none 0 0 0 0 Tryz.underlying26
    clear hk0 HGO HKP;have e0:=HI2.out.tb 0 _ rfl;have r0:=HI2.out.ra.tb 0 _ rfl;have r1:=HI2.out.ra.tb 1 _ rfl;have r2:=HI2.out.ra.tb 2 _ rfl;have r3:=HI2.out.ra.tb 3 _ rfl;have hbm:=HI2.out.ltB;have hbt:=HI2.out.ra.ltB;generalize w2.alloc (.cells #[.int .i64 yn,.int .i64 (yd:Int)] 35)=W2 at *
    first|refine ab (by kernel_rfl) (by kernel_rfl) ?_|refine ac (by kernel_rfl) (by kernel_rfl) ?_
    repeat (first|go_big_quiet_step (fail)|quiet_step (fail))
    refine wpQuiet_nil ?_
    intro _ hw'
    obtain⟨tr,hw''⟩:=hw';subst hw'';have HF3:=h_ (HF2.out.more tr);have HI3:=h_ (HI2.out.below (aa _ tr));have HPL3:=h_ (HPL2.out.below (aa _ tr));have HBV3:=h_ (HBV2.out.frm (Frm.of_below' _ (aa _ tr)));have HSQ3:=h_ (HSQ2.out.below (aa _ tr));have HFW3:=h_ (HFW2.out.trans (Frm.of_below' _ (aa _ tr)));have k0:=keep_cell g0 (aa _ tr);have k1:=keep_cell g1 (aa _ tr);have kz:=Nat.lt_of_lt_of_le gz (ae _ tr);clear HF2 HI2 HPL2 HBV2 HSQ2 HFW2 g0 g1 gz e0 r0 r1 r2 r3 hbm hbt;generalize more W2 tr=Z at *;obtain⟨z0,c00,f00,c01,f01,z1,c10,f10,c11,f11,z2,c20,f20,c21,f21⟩:=HF3.out.xf5
    refine ?za
   rotate_left
   focus
    obtain⟨bv,ov,cv,hvx,hcv',hsv⟩:∃b off c,vx = .slice (some ⟨b,off,none⟩) m.t.h c/\m.t.h<=c/\SQ T' (w2.alloc (.cells #[.int .i64 yn,.int .i64 (yd:Int)] 35)) (some ⟨b,off,none⟩) m.t.h (L.getD at' []):=by
     rcases HBV2.out with⟨h,_⟩|⟨_,h⟩
     ·exact absurd h hk0
     ·exact h
    subst hvx
    have hnil:∀W:World,(binOp .eql 26 (.slice (some ⟨bv,ov,none⟩) m.t.h cv) (.slice none 0 0)).run Tryz.prog W = .ok (.bool false) W:=fun W=>Lib.run_eql_slice_nil (P:=Tryz.prog) W 26 2 (some ⟨bv,ov,none⟩) m.t.h cv 0 0 Tryz.underlying26
    have COMP:=h_ fun (W:World)=>bW m.t.p m.t.c m.t.h yn xn m.t.s yd xd W hs1 hs6 HYV.out HXV.out
    have HCS:Hid ((0<cmpE (sq m.t.s) ⟨yn,yd⟩ ⟨xn,xd⟩)=(ltE (sq m.t.s) ⟨xn,xd⟩ ⟨yn,yd⟩=true)):=eZ;have hcb1:=eh (sq m.t.s) ⟨yn,yd⟩ ⟨xn,xd⟩;generalize cmpE (sq m.t.s) ⟨yn,yd⟩ ⟨xn,xd⟩=cm at *;clear hsv
    by_cases hcm:0<cm
    focus
     have HR:=h_ (HGO.out (.inr (by rw[<- HCS.out];exact hcm)))
     clear HGO HKP;have e0:=HI2.out.tb 0 _ rfl;have r0:=HI2.out.ra.tb 0 _ rfl;have r1:=HI2.out.ra.tb 1 _ rfl;have r2:=HI2.out.ra.tb 2 _ rfl;have r3:=HI2.out.ra.tb 3 _ rfl;have hbm:=HI2.out.ltB;have hbt:=HI2.out.ra.ltB;generalize w2.alloc (.cells #[.int .i64 yn,.int .i64 (yd:Int)] 35)=W2 at *;obtain⟨z0,c00,f00,c01,f01,z1,c10,f10,c11,f11,z2,c20,f20,c21,f21⟩:=HF2.out.xf5
     refine ?zc
    rotate_left
    focus
     have HR:=h_ (HKP.out hk0 (by
      cases hl:ltE (sq m.t.s) ⟨xn,xd⟩ ⟨yn,yd⟩with
      | false=>rfl
      | true=>exact absurd (by rw[HCS.out];exact hl) hcm))
     have dcm:=decide_eq_false hcm;clear HGO HKP;have e0:=HI2.out.tb 0 _ rfl;have r0:=HI2.out.ra.tb 0 _ rfl;have r1:=HI2.out.ra.tb 1 _ rfl;have r2:=HI2.out.ra.tb 2 _ rfl;have r3:=HI2.out.ra.tb 3 _ rfl;have hbm:=HI2.out.ltB;have hbt:=HI2.out.ra.ltB;generalize w2.alloc (.cells #[.int .i64 yn,.int .i64 (yd:Int)] 35)=W2 at *;obtain⟨z0,c00,f00,c01,f01,z1,c10,f10,c11,f11,z2,c20,f20,c21,f21⟩:=HF2.out.xf5
     refine ?zd
  case' zc|zd=>
   first|refine ab (by kernel_rfl) (by kernel_rfl) ?_|refine ac (by kernel_rfl) (by kernel_rfl) ?_
   repeat (first|go_big_quiet_step ((go_at_call 166;exact more_call (COMP.out _)))|quiet_step ((go_at_call 166;exact more_call (COMP.out _))))
   refine wpQuiet_nil ?_
   intro _ hw'
  case' zc=>
   obtain⟨tr,hw''⟩:=hw';subst hw'';clear z0 c00 f00 c01 f01 z1 c10 f10 c11 f11 z2 c20 f20 c21 f21;have HF3:=h_ (HF2.out.more tr);have HI3:=h_ (HI2.out.below (aa _ tr));have HPL3:=h_ (HPL2.out.below (aa _ tr));have HBV3:=h_ (HBV2.out.frm (Frm.of_below' _ (aa _ tr)));have HSQ3:=h_ (HSQ2.out.below (aa _ tr));have HFW3:=h_ (HFW2.out.trans (Frm.of_below' _ (aa _ tr)));have k0:=keep_cell g0 (aa _ tr);have k1:=keep_cell g1 (aa _ tr);have kz:=Nat.lt_of_lt_of_le gz (ae _ tr);clear HF2 HI2 HPL2 HBV2 HSQ2 HFW2 g0 g1 gz e0 r0 r1 r2 r3 hbm hbt;generalize more W2 tr=Z at *;obtain⟨z0,c00,f00,c01,f01,z1,c10,f10,c11,f11,z2,c20,f20,c21,f21⟩:=HF3.out.xf5
  case zd=>
   obtain⟨tr,hw''⟩:=hw';subst hw'';clear z0 c00 f00 c01 f01 z1 c10 f10 c11 f11 z2 c20 f20 c21 f21;have HF3:=h_ (HF2.out.more tr);have HI3:=h_ (HI2.out.below (aa _ tr));have HPL3:=h_ (HPL2.out.below (aa _ tr));have HBV3:=h_ (HBV2.out.frm (Frm.of_below' _ (aa _ tr)));have HSQ3:=h_ (HSQ2.out.below (aa _ tr));have HFW3:=h_ (HFW2.out.trans (Frm.of_below' _ (aa _ tr)));have k0:=keep_cell g0 (aa _ tr);have k1:=keep_cell g1 (aa _ tr);have kz:=Nat.lt_of_lt_of_le gz (ae _ tr);clear HF2 HI2 HPL2 HBV2 HSQ2 HFW2 g0 g1 gz e0 r0 r1 r2 r3 hbm hbt;generalize more W2 tr=Z at *
   have HBI:Hid (BestJ m T w v o (some ⟨bl,ol,none⟩) nl L (k+1) at' ⟨xn,xd⟩ (.slice (some ⟨bv,ov,none⟩) m.t.h cv) Z):=by
    refine⟨HF3.out,?_,?_,?_⟩
    ·rw[HTT.out];exact HI3.out
    ·rw[HTT.out];exact HPL3.out
    ·rw[HTT.out]
     rcases HBV3.out with⟨h,_⟩|⟨_,h⟩
     ·exact absurd h hk0
     ·exact .inr ⟨by omega,h⟩
   go_wp2_with (fail)
   go_roundw
   case rel=>exact⟨k+1,at',xn,xd,by omega,by go_num,HR.out,⟨_,rfl,HBI.out⟩,HFW3.out⟩
   case measure=>(simp[intOf])<;>omega
  case' ze|za|zc=>
   go_wp2_with (fail)
   first|refine ag 3 (by kernel_rfl) (by kernel_rfl) ?_|refine ah 3 (by kernel_rfl) (by kernel_rfl) ?_
   simp only[List.take_succ_cons,List.take_zero,List.drop_succ_cons,List.drop_zero]
   repeat (first|go_big_quiet_step (fail)|quiet_step (fail))
   refine wpQuiet_nil ?_
   intro _ hw'
  case ze=>
   obtain⟨tr,hw''⟩:=hw';subst hw'';clear z0 c00 f00 c01 f01 z1 c10 f10 c11 f11 z2 c20 f20 c21 f21;have HF2:=h_ (HF.out.more tr);have HI2:=h_ (HI.out.below (aa _ tr));have HBV2:=h_ (HBV.out.frm (Frm.of_below' _ (aa _ tr)));clear HF HI HPL HBV hfw;generalize more wr tr=Y at *;obtain⟨z0,c00,f00,c01,f01,z1,c10,f10,c11,f11,z2,c20,f20,c21,f21⟩:=HF2.out.xf5
   go_wp2_with (fail)
   refine bodyPost_ret (v:=.tuple #[vx,.agg #[.int .i64 xn,.int .i64 (xd:Int)],.bool true]) (by simp[results,Tryz.results114,go_sem,c10,c11,z1,f10,f11]) rfl ?_
   rw[HR.out]
   have hTb:T' (w.heap.size+1):=by rw[<- HTT.out];exact aG 1 rfl (by omega)
   have hfo:∀(X:World) (j:Nat) (u:Value),Frm T' X (X.setCell ⟨w.heap.size+1,j,none⟩ u):=fun X j u=>(Frm.set X (w.heap.size+1) j u).mono fun x hx=>by rw[hx];exact hTb
   refine⟨?_,?_,vx,rfl,?_⟩
   ·refine MonI.less (T:=T') ?_ (fun k hk=>by rw[<- HTT.out];exact .inl hk) HSUB.out
    repeat (first|exact HI2.out|refine MonI.alloc ?_ _|refine MonI.stored ?_ _ hTb (HNS.out 1))
   ·repeat (first|exact HF2.out.f|refine Frm.alloc ?_ _|refine Frm.ownSet ?_ (by omega) _)
   ·have h:=(HBV2.out.frm (hfo _ 0 (.int .i64 xn))).frm (hfo _ 1 (.int .i64 (xd:Int)))
    exact h.imp id fun⟨h0,b,off,c,h1,h2,h3⟩=>⟨h0,b,off,c,h1,h2,h3.less fun k hk=>by rw[<- HTT.out];exact .inl hk⟩
  case za|zc=>
   obtain⟨tr2,hw''⟩:=hw';subst hw'';have HF4:=h_ (HF3.out.more tr2);have HI4:=h_ (HI3.out.below (aa _ tr2));have HPL4:=h_ (HPL3.out.below (aa _ tr2));have HSQ4:=h_ (HSQ3.out.below (aa _ tr2));have HFW4:=h_ (HFW3.out.trans (Frm.of_below' _ (aa _ tr2)));clear z0 c00 f00 c01 f01 z1 c10 f10 c11 f11 z2 c20 f20 c21 f21;clear HF3 HI3 HPL3 HBV3 HSQ3 HFW3 k0 k1 kz;generalize more Z tr2=Y at *;obtain⟨z0,c00,f00,c01,f01,z1,c10,f10,c11,f11,z2,c20,f20,c21,f21⟩:=HF4.out.xf5
   go_wp2_with (fail)
   clear z0 c00 f00 c01 f01 z1 c10 f10 c11 f11 z2 c20 f20 c21 f21
   have hTb:T' (w.heap.size+2):=by rw[<- HTT.out];exact aG 2 rfl (by omega)
   have hfo:∀(X:World) (j:Nat) (u:Value),Frm T' X (X.setCell ⟨w.heap.size+2,j,none⟩ u):=fun X j u=>(Frm.set X (w.heap.size+2) j u).mono fun x hx=>by rw[hx];exact hTb
   have HBI:Hid (BestJ m T w v o (some ⟨bl,ol,none⟩) nl L (k+1) k ⟨yn,yd⟩ (.slice (some ⟨bq,oq,none⟩) m.t.h cq) ((Y.setCell ⟨w.heap.size+2,0,none⟩ (.int .i64 yn)).setCell ⟨w.heap.size+2,1,none⟩ (.int .i64 (yd:Int)))):=by
    refine⟨(HF4.out.set 2 0 rfl rfl _).set 2 1 rfl rfl _,?_,?_,?_⟩
    ·rw[HTT.out];exact (HI4.out.stored _ hTb (HNS.out 2)).stored _ hTb (HNS.out 2)
    ·rw[HTT.out];exact (HPL4.out.frm (hfo _ _ _)).frm (hfo _ _ _)
    ·rw[HTT.out];exact .inr ⟨by omega,bq,oq,cq,rfl,hmq,(HSQ4.out.frm (hfo _ _ _)).frm (hfo _ _ _)⟩
   have HFW5:Hid (Frm T' w1 ((Y.setCell ⟨w.heap.size+2,0,none⟩ (.int .i64 yn)).setCell ⟨w.heap.size+2,1,none⟩ (.int .i64 (yd:Int)))):=(HFW4.out.trans (hfo _ _ _)).trans (hfo _ _ _);clear hTb hfo
   go_roundw
   case rel=>exact⟨k+1,k,yn,yd,by omega,by go_num,HR.out,⟨_,rfl,HBI.out⟩,HFW5.out⟩
   case measure=>(simp[intOf])<;>omega
  case zg=>
   refine bodyPost_ret (v:=.tuple #[.slice none 0 0,.agg #[.int .i64 0,.int .i64 0],.bool false]) (by simp[results,Tryz.results114,go_sem,c10,c11,z1,f10,f11]) rfl ?_
   rw[HR.out]
   refine⟨?_,?_,rfl⟩
   ·refine MonI.less (T:=T') ?_ (fun k hk=>by rw[<- HTT.out];exact .inl hk) HSUB.out
    repeat (first|exact HI1.out|refine MonI.alloc ?_ _|refine MonI.stored ?_ _ (by rw[<- HTT.out];exact aG 1 rfl (by omega)) (HNS.out 1))
   ·repeat (first|exact HF1.out.f|refine Frm.alloc ?_ _|refine Frm.ownSet ?_ (by omega) _)
end Go.Proofs.YtkaiilmgemaljaaGreat

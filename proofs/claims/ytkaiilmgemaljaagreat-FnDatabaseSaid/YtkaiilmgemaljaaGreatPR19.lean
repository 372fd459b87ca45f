/- Contract of what an entry of expected numbers has to be, the program's. There are no conditions beyond those that it states. -/
import Derived.Test.YtkaiilmgemaljaaGreatPR18
set_option linter.unusedVariables false
set_option linter.unusedSimpArgs false
namespace Go.Proofs.YtkaiilmgemaljaaGreat
open Go.RowKit Ps Ra Ex
def AlcD (lo:Nat) (T:TypeId) (cs:List Value):RP:=fun v W=>∃g,v = .pointer (some ⟨g,0,none⟩)∧lo≤g∧Cel W g cs∧∃cur,W.heap[g]? = some (.cells cur T (0,0))
theorem stb_alcD (lo:Nat) (T:TypeId) (cs:List Value):Stb (AlcD lo T cs):=fun _ _ _ ⟨g,h1,h2,h3,cur,h4⟩ hb=>⟨g,h1,h2,h3.below hb,cur,(hb.block g h3.lt).trans h4⟩
theorem alcD_new {lo:Nat} (W:World) (cs:Array Value) (T:TypeId) (h:lo≤W.heap.size):AlcD lo T cs.toList (.pointer (some ⟨W.heap.size,0,none⟩)) (W.alloc (.cells cs T)):=⟨_,rfl,h,Cel.new W cs T,cs,heap_alloc_new _ _⟩
theorem rsl_getD {s:Nat} {q:List Int} {k:Nat} (hk:k<(rollsN s).length):(rsl s q).getD k []=resultsL q ((rollsN s).getD k (0,0)).1 ((rollsN s).getD k (0,0)).2:=by
 simp[rsl,List.getD,hk]
def r8d:Nat→Nat
 | 0=>29
 | 1=>30
 | 2=>31
 | 3=>32
 | 4=>33
 | 5=>34
 | 6=>35
 | 7=>36
 | 8=>37
 | 9=>12
 | _=>0
def r12d:Nat→Nat
 | 0=>45
 | 1=>46
 | 2=>47
 | 3=>48
 | 4=>49
 | 5=>50
 | 6=>51
 | 7=>15
 | _=>0
theorem Cel.duo9 {W:World} {b:Nat} {x0 x1:Value} (h:Cel W b [x0,x1]) (v0 v1:Value):Cel ((W.setCell ⟨b,0,none⟩ v0).setCell ⟨b,1,none⟩ v1) b [v0,v1]:=(h.st (i:=0) (v:=v0) (by simp)).st (i:=1) (v:=v1) (by simp)
set_option maxRecDepth 100000 in
set_option maxHeartbeats 8000000 in
theorem trueRolls_any (p kk:Int) (c h s n cv i:Nat) (A:Option Addr) (xs:List E) (u:Value) {q:List Int} (w:World) (hv:isVar p c h s=true) (hN:wys h c≤n) (hn25:n≤2500) (hq:PosP h c q) (hi0:i≠0) (hval:∀x∈xs,Val (sq s) x)
  (hx:EL (fun _=>False) w A n xs) (hr:RSV (fun _=>False) w u (rsl s q)):
  Calls Tryz.prog 159 #[.agg #[.int .i64 p,.int .i64 c,.int .i64 h,.int .i64 s,.int .i64 kk,.slice A n cv],u,.int .i64 (i:Int)] w fun e w'=>e = .returned (.tuple #[exV (tX c s (fun j=>xs.getD j ⟨0,0⟩) q),.bool (tX c s (fun j=>xs.getD j ⟨0,0⟩) q).isSome])∧Below w.heap.size w w':=by
 obtain⟨i0,hi,iz0,iz1,iz2⟩:=info_parts Tryz.infoE;have hvv:=isVar_yes hv
 have hs1:1≤s:=by omega
 have hs6:s≤6:=by omega
 have hh1:0<h:=by omega
 have hh24:h≤24:=by omega
 have hc15:c≤15:=by omega
 obtain⟨hq1,hq36,_⟩:=sq_bd hs1 hs6;obtain⟨Ar,nr,cr,rfl,hRS,hncr⟩:=hr
 obtain⟨T,hT⟩:∃T:Nat→Prop,T=fun k=>w.heap.size≤k:=⟨_,rfl⟩
 have HT:Hid (∀k,w.heap.size≤k→T k):=fun k hk=>by rw[hT];exact hk
 have HTB:Hid (∀k,T k→w.heap.size≤k):=fun k hk=>by rw[hT]at hk;exact hk
 have HX:Hid (EL T w A n xs):=hx.spare fun b hb=>by rw[hT];omega
 have HR:=Lib.hid (hRS.set (T':=T) fun k hk=>.inr (HTB.out k hk))
 have hnr:(rollsN s).length=nr:=by have:=hRS.1;simpa[rsl]using this
 have hnr21:nr≤21:=by rw[← hnr];exact rolls_le hs6
 have HNR:=Lib.hid hnr
 have b0:((i:Int) == 0)=false:=by simp;omega
 have HF0:Hid (FrS (fun _=>False) w (((w.alloc (.cells #[.int .i64 p,.int .i64 c,.int .i64 h,.int .i64 s,.int .i64 kk,.slice A n cv] 85)).alloc (.cells #[.int .i64 0,.int .i64 0] 35)).alloc (.cells #[.int .i64 p,.int .i64 c,.int .i64 h,.int .i64 s] 25)) [[.int .i64 p,.int .i64 c,.int .i64 h,.int .i64 s,.int .i64 kk,.slice A n cv],[.int .i64 0,.int .i64 0],[.int .i64 p,.int .i64 c,.int .i64 h,.int .i64 s]]):=(((FrS.start w (fun _ h=>h.elim)).allocT (by simp) _ _).allocT (by simp) _ _).allocT (by simp) _ _
 have HFT0:Hid (Frm T w (((w.alloc (.cells #[.int .i64 p,.int .i64 c,.int .i64 h,.int .i64 s,.int .i64 kk,.slice A n cv] 85)).alloc (.cells #[.int .i64 0,.int .i64 0] 35)).alloc (.cells #[.int .i64 p,.int .i64 c,.int .i64 h,.int .i64 s] 25))):=(((Frm.refl _ _).alloc _).alloc _).alloc _
 have CN:=Lib.hid fun (B:Option Addr) (cq:Nat) (qq:List Int) (W:World) (hx:SL W B h qq) (hp:PosP h c qq)=>bearoffNumber_any p s c h B h cq qq W hx hp hc15 hh24
 have CC:=Lib.hid fun (ym xm:Int) (yd xd:Nat) (W:World) (h1:Val (sq s) ⟨ym,yd⟩) (h2:Val (sq s) ⟨xm,xd⟩)=>compareExact_any p c h ym xm s yd xd W hs1 hs6 h1 h2
 have MEAN:=Lib.hid fun (W:World) (A:Option Addr) (c0 n:Nat) (xs:List E) (hn:(rollsN s).length=n) (hx:EL (fun _=>False) W A n xs) (hval:∀x∈xs,Val (sq s) x)=>meanExact_any p c h s n c0 A xs W hv hx hn hval
 have ADD:Hid (∀(m:Int) (d:Nat) (W:World),Val (sq s) ⟨m,d⟩→Calls Tryz.prog 130 #[.agg #[.int .i64 p,.int .i64 c,.int .i64 h,.int .i64 s],.agg #[.int .i64 m,.int .i64 (d:Int)],.agg #[.int .i64 1,.int .i64 0]] W (RetE W (addE (sq s) ⟨m,d⟩ oneE))):=fun m d W hm=>addExact_any p c h m 1 s d 0 W hs1 hs6 hm one_val
 have HMV:Hid (∀xs e,meanE (sq s) (rollsN s) xs=some e→Val (sq s) e):=fun xs e h=>by
  unfold meanE at h
  cases hu:sumE (sq s) ((rollsN s).zip xs) with
  | none=>rw[hu]at h;cases h
  | some u=>rw[hu]at h;exact mk_isVal hq1 h
 have HVE:Hid (∀j,j<n→Val (sq s) (xs.getD j ⟨0,0⟩)):=fun j hj=>hval _ (getD_mem' xs ⟨0,0⟩ (by rw[hx.1];exact hj))
 have HRES:Hid (∀a b,(a,b)∈rollsN s→resultsL q a b≠[]∧(resultsL q a b).length≤1000000∧∀x∈resultsL q a b,PosP h c x):=fun a b hab=>by
  obtain⟨r1,r2,r3⟩:=mem_rollsN.1 hab
  exact⟨results_some (by omega) r1 hq,Nat.le_trans (results_len (by omega) r1 hq hh24) (by omega),fun x hx=>(results_pos (by omega) r1 hq x hx).1⟩
 have HNM:Hid (∀x,PosP h c x→num c x<n):=fun x hx=>Nat.lt_of_lt_of_le (num_lt hx) hN
 have HTX:Hid (tX c s (fun j=>xs.getD j ⟨0,0⟩) q=((allS (tRollX c s (fun j=>xs.getD j ⟨0,0⟩) q) (rollsN s)).bind (meanE (sq s) (rollsN s))).bind fun m=>addE (sq s) m oneE):=rfl
 have HRL:Hid (∀a b,tRollX c s (fun j=>xs.getD j ⟨0,0⟩) q (a,b)=(lstS (sq s) (fun y=>some (xs.getD (num c y) ⟨0,0⟩)) (resultsL q a b)).map fun t=>t.2.2):=fun a b=>rfl
 have HLV:Hid (∀l:List (List Int),(∀x∈l,PosP h c x)→∀t,lstS (sq s) (fun y=>some (xs.getD (num c y) ⟨0,0⟩)) l=some t→Val (sq s) t.2.2):=fun l hl t ht=>by
  have h1:=lstS_congr (B:=sq s) (f:=fun y=>some (xs.getD (num c y) ⟨0,0⟩)) (g:=fun y=>if num c y<n then some (xs.getD (num c y) ⟨0,0⟩) else none) (l:=l) (fun y hy=>by show some (xs.getD (num c y) ⟨0,0⟩)=if num c y<n then some (xs.getD (num c y) ⟨0,0⟩) else none;rw[if_pos (HNM.out y (hl y hy))])
  rw[h1]at ht
  exact lstS_val (fun y e he=>by
   split at he
   ·rename_i hlt;injection he with he;rw[← he];exact HVE.out _ hlt
   ·cases he) ht
 generalize hTO:tX c s (fun j=>xs.getD j ⟨0,0⟩) q=TO at *
 generalize tRollX c s (fun j=>xs.getD j ⟨0,0⟩) q=TR at *
 clear hv hvv hq hval hx hTO hT
 go_enter Tryz.func159,Tryz.ntmps159
 go_wp2_with (fail)
 go_loopw [9,25] (fun v9 v25 wr=>∃(k:Nat) (ys:List E),k≤nr∧v25 = .int .i64 k∧Hid (allS TR ((rollsN s).take k)=some ys∧ys.length=k∧∀y∈ys,Val (sq s) y)∧(∃vx,vx=v9∧Hid (OwnE wr (w.heap.size+3) vx ys))∧Hid (FrS (fun _=>False) w wr [[.int .i64 p,.int .i64 c,.int .i64 h,.int .i64 s,.int .i64 kk,.slice A n cv],[.int .i64 0,.int .i64 0],[.int .i64 p,.int .i64 c,.int .i64 h,.int .i64 s]])∧Hid (Frm T w wr)) (fun _ v25 _=>nr-(intOf v25).toNat)
 case atStart=>exact⟨0,[],by omega,rfl,⟨rfl,rfl,fun _ h=>by cases h⟩,⟨_,rfl,World.ownsRow_nil _ _ _ _⟩,HF0.out,HFT0.out⟩
 case round=>
  clear HF0 HFT0;obtain⟨k,ys,hk,rfl,hys,⟨vx,rfl,HO⟩,HF,HFT⟩:=hrel
  by_cases hlt:k<nr
  ·have hki:(k:Int)<(nr:Int):=by omega
   have hrs:=HR.out.frm HFT.out (fun k hk=>hk)
   obtain⟨br,orr,hAr,hrlt,_,hrc⟩:=hrs.2 (by omega)
   subst hAr;obtain⟨Bl,ml,cl,hcell,hpl,hml⟩:=hrc k hlt
   rw[rsl_getD (by rw[HNR.out];exact hlt)]at hpl
   have hmem:=getD_mem' (rollsN s) (0,0) (k:=k) (by rw[HNR.out];exact hlt)
   have HLK:Hid (k<(rollsN s).length):=by unfold Hid;rw[HNR.out];exact hlt
   rcases hab:(rollsN s).getD k (0,0) with⟨a,b⟩
   rw[hab]at hpl hmem
   simp only at hpl
   obtain⟨hne,hlen,hLP⟩:=HRES.out a b hmem;have HRLk:=Lib.hid (HRL.out a b);have HAB:=Lib.hid hab;generalize resultsL q a b=L at *
   have hml0:0<ml:=by rw[← hpl.len];exact List.length_pos_iff.2 hne
   have HLL:=Lib.hid hpl.len
   have hmlen:ml≤1000000:=by rw[← hpl.len];exact hlen
   obtain⟨bl,ol,Bq,mq,cq,hBl,hblt,hlc,hsq,hmq⟩:=hpl.at hml0;subst hBl
   have hqp:=hLP _ (getD_mem' L [] (k:=0) (by rw[HLL.out];exact hml0))
   have hmh:h=mq:=by rw[← hsq.1.1];exact hqp.1.symm
   subst hmh;have hel:=HX.out.frm HFT.out;have hnum:=HNM.out _ hqp;obtain⟨ba,oa,hAa,halt,hen0,hen1⟩:=hel.at hnum;subst hAa
   rcases hxo:xs.getD (num c (L.getD 0 [])) ⟨0,0⟩with⟨xm,xd⟩
   rw[hxo]at hen0 hen1
   simp only at hen0 hen1
   have HPL:=Lib.hid hpl;have HLP:=Lib.hid hLP;obtain⟨qq,hqq⟩:∃qq,qq=L.getD 0 []:=⟨_,rfl⟩;rw[← hqq]at hen0 hen1 hqp hnum hsq hxo;have hlc:Hid (wr.cell? ⟨bl,ol,none⟩=some (.slice Bq h cq)):=hlc;have hen0:=Lib.hid hen0;have hen1:=Lib.hid hen1;have HSQ:=Lib.hid hsq.1
   have HCN:=Lib.hid fun (W:World) (hx:SL W Bq h qq)=>CN.out Bq cq qq W hx hqp
   have hl1:lstS (sq s) (fun y=>some (xs.getD (num c y) ⟨0,0⟩)) (L.take 1)=some (1,0,⟨xm,xd⟩):=by
    refine lstS_go (k:=0) (a:=0) (m:=zeroE') (by rw[HLL.out];exact hml0) rfl ?_ (.inl rfl)
    rw[← hqq,hxo]
   have HL1:=Lib.hid hl1;have HQQ:=Lib.hid hqp;have HXO:=Lib.hid hxo;clear hl1 hqp hxo hsq hqq hab hmem hne hlen hLP hpl hel
   go_upto_region 8 with (fail)
   refine wp_region_early 10 (fun _=>false) r8d Bel (fun _=>True) (GL [Eqv (.pointer (some ⟨w.heap.size,5,none⟩)),Eqv (.slice (some ⟨ba,oa,none⟩) n cv),Eqv (.agg #[.int .i64 p,.int .i64 c,.int .i64 h,.int .i64 s]),Eqv (.slice (some ⟨bl,ol,none⟩) ml cl),Eqv (.pointer (some ⟨bl,ol,none⟩)),Eqv (.slice Bq h cq),Eqv (.int .i64 (num c qq:Int)),Eqv (.pointer (some ⟨ba,oa+num c qq*2,none⟩)),Eqv (.agg #[.int .i64 xm,.int .i64 (xd:Int)]),AlcD wr.heap.size 35 [.int .i64 0,.int .i64 0]]) (by kernel_rfl) (by kernel_rfl) (fun _ _ _ _ _ h=>h) (fun _ _ _ h1 h2=>Bel.trans h1 h2) Bel.rfl' (GL.stab (by repeat (first|exact AllStb.nil|refine AllStb.cons (by first|exact stb_eq _|exact stb_alcD _ _ _) ?_))) (Bel.drew _) trivial (fun i o' _ hX=>by cases hX) ?_ ?_
   ·intro i o hi hX ho a' W hW hIW hfar hdep
    have e3:a'.tmps.getD 3 undef = .pointer (some ⟨w.heap.size,0,none⟩):=(hfar 3 (by decide)).trans rfl
    have e8:a'.tmps.getD 8 undef = .pointer (some ⟨w.heap.size+1+1,0,none⟩):=(hfar 8 (by decide)).trans rfl
    have e11:a'.tmps.getD 11 undef = .slice (some ⟨bl,ol,none⟩) ml cl:=(hfar 11 (by decide)).trans rfl
    have dep:∀j,j<10→Region.waitsFor .any _ i j=true→(GL [Eqv (.pointer (some ⟨w.heap.size,5,none⟩)),Eqv (.slice (some ⟨ba,oa,none⟩) n cv),Eqv (.agg #[.int .i64 p,.int .i64 c,.int .i64 h,.int .i64 s]),Eqv (.slice (some ⟨bl,ol,none⟩) ml cl),Eqv (.pointer (some ⟨bl,ol,none⟩)),Eqv (.slice Bq h cq),Eqv (.int .i64 (num c qq:Int)),Eqv (.pointer (some ⟨ba,oa+num c qq*2,none⟩)),Eqv (.agg #[.int .i64 xm,.int .i64 (xd:Int)]),AlcD wr.heap.size 35 [.int .i64 0,.int .i64 0]]) j (a'.tmps.getD (r8d j) undef) W:=hdep
    have hi8:i=0∨i=1∨i=2∨i=3∨i=4∨i=5∨i=6∨i=7∨i=8∨i=9:=by omega
    clear hfar hdep hX hi
    rcases hi8 with rfl|rfl|rfl|rfl|rfl|rfl|rfl|rfl|rfl|rfl
    all_goals (simp at ho;subst ho)
    ·exact .inl ⟨.pointer (some ⟨w.heap.size,5,none⟩),W,by simp only[execOp,Act.eval,e3];go_simp,Bel.rfl' _,trivial,rfl⟩
    ·have d1:a'.tmps.getD 29 undef = .pointer (some ⟨w.heap.size,5,none⟩):=dep 0 (by omega) (by kernel_rfl)
     have q0:=(HF.out.below hW).c0 5 rfl
     exact .inl ⟨.slice (some ⟨ba,oa,none⟩) n cv,W,by simp only[execOp,Act.eval,d1];go_simp,Bel.rfl' _,trivial,rfl⟩
    ·have q0:=(HF.out.below hW).cellA (b:=w.heap.size+1+1) 2 0 rfl rfl
     have q1:=(HF.out.below hW).cellA (b:=w.heap.size+1+1) 2 1 rfl rfl;have q2:=(HF.out.below hW).cellA (b:=w.heap.size+1+1) 2 2 rfl rfl;have q3:=(HF.out.below hW).cellA (b:=w.heap.size+1+1) 2 3 rfl rfl
     exact .inl ⟨.agg #[.int .i64 p,.int .i64 c,.int .i64 h,.int .i64 s],W,by simp only[execOp,Act.eval,e8];go_simp,Bel.rfl' _,trivial,rfl⟩
    ·exact .inl ⟨.slice (some ⟨bl,ol,none⟩) ml cl,W,by simp only[execOp,Act.eval,e11];go_simp,Bel.rfl' _,trivial,rfl⟩
    ·have d1:a'.tmps.getD 32 undef = .slice (some ⟨bl,ol,none⟩) ml cl:=dep 3 (by omega) (by kernel_rfl)
     exact .inl ⟨.pointer (some ⟨bl,ol,none⟩),W,by simp only[execOp,Act.eval,d1];go_simp,Bel.rfl' _,trivial,rfl⟩
    ·have d1:a'.tmps.getD 33 undef = .pointer (some ⟨bl,ol,none⟩):=dep 4 (by omega) (by kernel_rfl)
     have q0:=keep_cell hlc.out hW
     exact .inl ⟨.slice Bq h cq,W,by simp only[execOp,Act.eval,d1];go_simp,Bel.rfl' _,trivial,rfl⟩
    ·have d1:a'.tmps.getD 31 undef = .agg #[.int .i64 p,.int .i64 c,.int .i64 h,.int .i64 s]:=dep 2 (by omega) (by kernel_rfl)
     have d2:a'.tmps.getD 34 undef = .slice Bq h cq:=dep 5 (by omega) (by kernel_rfl)
     refine .inr ⟨169,#[.agg #[.int .i64 p,.int .i64 c,.int .i64 h,.int .i64 s],.slice Bq h cq],by simp only[execOp,Act.eval,d1,d2];go_simp,?_⟩
     refine (HCN.out W (HSQ.out.below hW)).mono ?_
     rintro e W' ⟨rfl,hb'⟩
     exact⟨_,rfl,hb',trivial,rfl⟩
    ·have d1:a'.tmps.getD 30 undef = .slice (some ⟨ba,oa,none⟩) n cv:=dep 1 (by omega) (by kernel_rfl)
     have d2:a'.tmps.getD 35 undef = .int .i64 (num c qq:Int):=dep 6 (by omega) (by kernel_rfl)
     exact .inl ⟨.pointer (some ⟨ba,oa+num c qq*2,none⟩),W,by simp only[execOp,Act.eval,d1,d2];go_simp,Bel.rfl' _,trivial,rfl⟩
    ·have d1:a'.tmps.getD 36 undef = .pointer (some ⟨ba,oa+num c qq*2,none⟩):=dep 7 (by omega) (by kernel_rfl)
     have q0:=keep_cell hen0.out hW;have q1:=keep_cell hen1.out hW
     exact .inl ⟨.agg #[.int .i64 xm,.int .i64 (xd:Int)],W,by simp only[execOp,Act.eval,d1];go_simp,Bel.rfl' _,trivial,rfl⟩
    ·exact .inl ⟨.pointer (some ⟨W.heap.size,0,none⟩),W.alloc (.cells #[.int .i64 0,.int .i64 0] 35),by kernel_rfl,Bel.alloc _ _,trivial,alcD_new _ _ _ (Below.size hW)⟩
   intro v W1 hW hIW hg
   have g0:v 0 = .pointer (some ⟨w.heap.size,5,none⟩):=hg 0 (by omega)
   have g1:v 1 = .slice (some ⟨ba,oa,none⟩) n cv:=hg 1 (by omega)
   have g2:v 2 = .agg #[.int .i64 p,.int .i64 c,.int .i64 h,.int .i64 s]:=hg 2 (by omega)
   have g3:v 3 = .slice (some ⟨bl,ol,none⟩) ml cl:=hg 3 (by omega)
   have g4:v 4 = .pointer (some ⟨bl,ol,none⟩):=hg 4 (by omega)
   have g5:v 5 = .slice Bq h cq:=hg 5 (by omega)
   have g6:v 6 = .int .i64 (num c qq:Int):=hg 6 (by omega)
   have g7:v 7 = .pointer (some ⟨ba,oa+num c qq*2,none⟩):=hg 7 (by omega)
   have g8:v 8 = .agg #[.int .i64 xm,.int .i64 (xd:Int)]:=hg 8 (by omega)
   obtain⟨gx,g9,gl,hA9,_⟩:AlcD wr.heap.size 35 [.int .i64 0,.int .i64 0] (v 9) W1:=hg 9 (by omega)
   simp only[List.drop_succ_cons,List.drop_zero,putV,r8d,g0,g1,g2,g3,g4,g5,g6,g7,g8,g9,Act.put]
   clear g0 g1 g2 g3 g4 g5 g6 g7 g8 g9 hg hIW;have HB1:Hid (Below wr.heap.size wr W1):=hW;have hz1:wr.heap.size≤W1.heap.size:=hW.size;have hzf:w.heap.size+3≤wr.heap.size:=HF.out.z;clear hW;have x0:=hA9.cell 0 _ rfl;have x1:=hA9.cell 1 _ rfl;have x0':=hA9.froz 0 _ rfl;have x1':=hA9.froz 1 _ rfl;have xz:=hA9.lt;have HA9:=Lib.hid hA9;clear hA9
   have HVL:=Lib.hid fun (j:Nat) (hj:vx.ownBlock=some j)=>World.ownsRow.lt HO.out j hj
   have hc1:(1:Int)≤(cl:Int):=by omega
   have hm1:(1:Int)≤(ml:Int):=by omega
   by_cases hcl1:cl=1
   ·have hml1:ml=1:=by omega
    subst hcl1
    go_wp2_with (fail)
    have HC0:=Lib.hid (HA9.out.duo9 (.int .i64 xm) (.int .i64 (xd:Int)))
    have HG0:Hid (Frm (fun x=>x=gx) W1 ((W1.setCell ⟨gx,0,none⟩ (.int .i64 xm)).setCell ⟨gx,1,none⟩ (.int .i64 (xd:Int)))):=(Frm.set _ _ _ _).trans (Frm.set _ _ _ _)
    clear x0 x1 x0' x1' xz HA9;obtain⟨wa,rfl⟩:∃wa:World,wa=wr:=⟨_,rfl⟩
    go_loopw [41] (fun v41 wr=>∃(j a':Nat) (lm:Int) (ld:Nat),j+1≤ml∧v41 = .int .i64 j∧Hid (lstS (sq s) (fun y=>some (xs.getD (num c y) ⟨0,0⟩)) (L.take (j+1))=some (j+1,a',⟨lm,ld⟩))∧Hid (Cel wr gx [.int .i64 lm,.int .i64 (ld:Int)])∧Hid (Frm (fun x=>x=gx) W1 wr)) (fun v41 _=>ml-(intOf v41).toNat)
    case atStart=>exact⟨0,0,xm,xd,by omega,rfl,HL1.out,HC0.out,HG0.out⟩
    case round=>
     clear HC0 HG0 HL1;obtain⟨j,a',lm,ld,hj,rfl,HLj,HCg,HG⟩:=hrel
     have HGT:Hid (Frm T wa wr):=(Frm.of_below' T HB1.out).trans (HG.out.mono fun x hx=>by rw[hx];exact HT.out _ (by omega))
     have HF2:=Lib.hid ((HF.out.below HB1.out).outs HG.out (fun x hx=>by rw[hx];simp only[List.length_cons,List.length_nil];omega))
     have HFT2:=Lib.hid (HFT.out.trans HGT.out);have hz1r:W1.heap.size≤wr.heap.size:=HG.out.size;have hgz:gx<wr.heap.size:=HCg.out.lt
     by_cases hjl:j+1<ml
     ·exfalso;omega
     ·have hjm:j+1=ml:=by omega
      have hjn:¬(j:Int)<((ml-1:Nat):Int):=by omega
      have hjz:decide ((j:Int)<((ml-1:Nat):Int))=false:=decide_eq_false hjn
      have HVM:Hid (Val (sq s) ⟨lm,ld⟩):=HLV.out (L.take (j+1)) (fun x hx=>HLP.out x (List.mem_of_mem_take hx)) _ HLj.out
      have HLA:Hid (TR (a,b)=some ⟨lm,ld⟩):=by
       unfold Hid;have h:=HLj.out
       rw[List.take_of_length_le (by rw[HLL.out];omega)]at h
       rw[HRLk.out,h];rfl
      have HXS:Hid (allS TR ((rollsN s).take (k+1))=some (ys++[⟨lm,ld⟩])):=allS_go HLK.out hys.out.1 (by rw[HAB.out];exact HLA.out)
      have hyk:=hys.out.2.1
      have HVS:Hid (∀y∈ys++[(⟨lm,ld⟩:E)],Val (sq s) y):=fun y hy=>by
       rcases List.mem_append.1 hy with h|h
       ·exact hys.out.2.2 y h
       ·rw[List.mem_singleton.1 h];exact HVM.out
      have HROW:Hid ((wr.alloc (.cells #[.int .i64 lm,.int .i64 (ld:Int)] 35)).ownsRow (w.heap.size+3) 35 2 vx ys.length (exC ys)):=row_alloc (HG.out.row (own_below HO.out HB1.out) (fun x hx h=>by have:=HVL.out x hx;omega)) _
      have hTN:=two_new wr lm (ld:Int) 35;have HFA:=Lib.hid (HF2.out.alloc (.cells #[.int .i64 lm,.int .i64 (ld:Int)] 35));have HFTA:Hid (Frm T w (wr.alloc (.cells #[.int .i64 lm,.int .i64 (ld:Int)] 35))):=HFT2.out.alloc _;have y0:=HCg.out.cell 0 _ rfl;have y1:=HCg.out.cell 1 _ rfl;have yz:=HCg.out.lt;have HTN:=Lib.hid hTN;have HYK:=Lib.hid hyk;clear hTN HF2 HFT2 HO hyk
      go_wp2_with (at_builtin;(refine wpList_append_own_at _ rfl _ _ 29 rfl (w.heap.size+3) 35 i0 (.agg #[.int .i64 0,.int .i64 0]) 2 16 Tryz.underlying29 hi iz0 iz1 iz2 rfl (by decide) _ _ _ rfl HROW.out ⟨wr.heap.size,0,none⟩ 1 1 [.int .i64 lm,.int .i64 (ld:Int)] rfl rfl HTN.out (two_cells _ _) (by have:=HYK.out;unfold maxLen;omega) (by have:=HYK.out;omega) (by simp;omega) ?_);intro v' w4 hown hgrow _ hat)
      have hgO:∀x,some x=vx.ownBlock→w.heap.size+3≤x:=fun x hx=>(HVL.out x hx.symm).1
      have HF4:=Lib.hid (HFA.out.outs (Frm.of_grown hgrow) (fun x hx=>by simp only[List.length_cons,List.length_nil];have:=hgO x hx;omega))
      have HFT4:Hid (Frm T w w4):=HFTA.out.trans ((Frm.of_grown hgrow).mono (fun x hx=>HT.out _ (by have:=hgO x hx;omega)))
      have HO4:Hid (OwnE w4 (w.heap.size+3) v' (ys++[⟨lm,ld⟩])):=by
       unfold Hid OwnE;rw[exC_snoc,List.length_append]
       exact hown
      have HL4:Hid ((ys++[(⟨lm,ld⟩:E)]).length=k+1):=by unfold Hid;rw[List.length_append,HYK.out];rfl
      clear hown hgrow hat HROW HFA HFTA hgO HTN
      go_wp2_with (fail)
      go_roundw
      case rel=>exact⟨k+1,ys++[⟨lm,ld⟩],by omega,by go_num,⟨HXS.out,HL4.out,HVS.out⟩,⟨_,rfl,HO4⟩,HF4.out,HFT4.out⟩
      case measure=>(simp[intOf])<;>omega
   ·have hc2:¬((cl:Int)-1=0):=by omega
    have hc3:¬(cl-1=0):=by omega
    go_wp2_with (fail)
    have HC0:=Lib.hid (HA9.out.duo9 (.int .i64 xm) (.int .i64 (xd:Int)))
    have HG0:Hid (Frm (fun x=>x=gx) W1 ((W1.setCell ⟨gx,0,none⟩ (.int .i64 xm)).setCell ⟨gx,1,none⟩ (.int .i64 (xd:Int)))):=(Frm.set _ _ _ _).trans (Frm.set _ _ _ _)
    clear x0 x1 x0' x1' xz HA9;obtain⟨wa,rfl⟩:∃wa:World,wa=wr:=⟨_,rfl⟩
    go_loopw [41] (fun v41 wr=>∃(j a':Nat) (lm:Int) (ld:Nat),j+1≤ml∧v41 = .int .i64 j∧Hid (lstS (sq s) (fun y=>some (xs.getD (num c y) ⟨0,0⟩)) (L.take (j+1))=some (j+1,a',⟨lm,ld⟩))∧Hid (Cel wr gx [.int .i64 lm,.int .i64 (ld:Int)])∧Hid (Frm (fun x=>x=gx) W1 wr)) (fun v41 _=>ml-(intOf v41).toNat)
    case atStart=>exact⟨0,0,xm,xd,by omega,rfl,HL1.out,HC0.out,HG0.out⟩
    case round=>
     clear HC0 HG0 HL1;obtain⟨j,a',lm,ld,hj,rfl,HLj,HCg,HG⟩:=hrel
     have HGT:Hid (Frm T wa wr):=(Frm.of_below' T HB1.out).trans (HG.out.mono fun x hx=>by rw[hx];exact HT.out _ (by omega))
     have HF2:=Lib.hid ((HF.out.below HB1.out).outs HG.out (fun x hx=>by rw[hx];simp only[List.length_cons,List.length_nil];omega))
     have HFT2:=Lib.hid (HFT.out.trans HGT.out);have hz1r:W1.heap.size≤wr.heap.size:=HG.out.size;have hgz:gx<wr.heap.size:=HCg.out.lt
     by_cases hjl:j+1<ml
     ·have hji:(j:Int)<((ml-1:Nat):Int):=by omega
      have hLj:j+1<L.length:=by rw[HLL.out];exact hjl
      obtain⟨b2,o2,B2,m2,c2,hB2,hb2lt,hlc2,hsq2,hmq2⟩:=(HPL.out.frm HGT.out).at hjl
      obtain⟨rfl,rfl⟩:bl=b2∧ol=o2:=by cases hB2;exact⟨rfl,rfl⟩
      have hqp2:=HLP.out _ (getD_mem' L [] (k:=j+1) hLj)
      have hmh2:h=m2:=by rw[← hsq2.1.1];exact hqp2.1.symm
      subst hmh2;have hnum2:=HNM.out _ hqp2;obtain⟨ba2,oa2,hAa2,halt2,hen2,hen3⟩:=(HX.out.frm HFT2.out).at hnum2
      obtain⟨rfl,rfl⟩:ba=ba2∧oa=oa2:=by cases hAa2;exact⟨rfl,rfl⟩
      rcases hxo2:xs.getD (num c (L.getD (j+1) [])) ⟨0,0⟩with⟨ym,yd⟩
      have HVY:Hid (Val (sq s) ⟨ym,yd⟩):=by have:=HVE.out _ hnum2;rwa [hxo2]at this
      have HVM:Hid (Val (sq s) ⟨lm,ld⟩):=HLV.out (L.take (j+1)) (fun x hx=>HLP.out x (List.mem_of_mem_take hx)) _ HLj.out
      have hf2:(fun y=>some (xs.getD (num c y) (⟨0,0⟩:E))) (L.getD (j+1) [])=some ⟨ym,yd⟩:=by show some _=_;rw[hxo2]
      have HGO:Hid (ltE (sq s) ⟨ym,yd⟩ ⟨lm,ld⟩=true→lstS (sq s) (fun y=>some (xs.getD (num c y) ⟨0,0⟩)) (L.take (j+1+1))=some (j+1+1,j+1,⟨ym,yd⟩)):=fun h=>lstS_go hLj HLj.out hf2 (.inr h)
      have HKP:Hid (ltE (sq s) ⟨ym,yd⟩ ⟨lm,ld⟩=false→lstS (sq s) (fun y=>some (xs.getD (num c y) ⟨0,0⟩)) (L.take (j+1+1))=some (j+1+1,a',⟨lm,ld⟩)):=fun h=>lstS_keep hLj HLj.out hf2 (by omega) h
      rw[hxo2]at hen2 hen3
      simp only at hen2 hen3
      obtain⟨q2,hq2⟩:∃q2,q2=L.getD (j+1) []:=⟨_,rfl⟩;rw[← hq2]at hen2 hen3 hqp2 hnum2 hsq2
      have hlc2:wr.cell? ⟨bl,ol+1+j,none⟩=some (.slice B2 h c2):=by rw[show ol+1+j=ol+(j+1) by omega];exact hlc2
      have hen2:=Lib.hid hen2;have hen3:=Lib.hid hen3;have HSQ2:=Lib.hid hsq2.1
      have HCN2:=Lib.hid fun (W:World) (hx:SL W B2 h q2)=>CN.out B2 c2 q2 W hx hqp2
      have HCS:Hid ((cmpE (sq s) ⟨ym,yd⟩ ⟨lm,ld⟩<0)=(ltE (sq s) ⟨ym,yd⟩ ⟨lm,ld⟩=true)):=cmp_ltE;clear hf2 hxo2 hqp2 hsq2 hmq2 hB2 hAa2 hq2 hLj
      go_upto_region 12 with (fail)
      refine wp_region_early 8 (fun _=>false) r12d Bel (fun _=>True) (GL [Eqv (.pointer (some ⟨w.heap.size,5,none⟩)),Eqv (.slice (some ⟨ba,oa,none⟩) n cv),Eqv (.agg #[.int .i64 p,.int .i64 c,.int .i64 h,.int .i64 s]),Eqv (.slice B2 h c2),Eqv (.int .i64 (num c q2:Int)),Eqv (.pointer (some ⟨ba,oa+num c q2*2,none⟩)),Eqv (.agg #[.int .i64 ym,.int .i64 (yd:Int)]),AlcD wr.heap.size 35 [.int .i64 0,.int .i64 0]]) (by kernel_rfl) (by kernel_rfl) (fun _ _ _ _ _ h=>h) (fun _ _ _ h1 h2=>Bel.trans h1 h2) Bel.rfl' (GL.stab (by repeat (first|exact AllStb.nil|refine AllStb.cons (by first|exact stb_eq _|exact stb_alcD _ _ _) ?_))) (Bel.drew _) trivial (fun i o' _ hX=>by cases hX) ?_ ?_
      ·intro i o hi hX ho a' W hW hIW hfar hdep
       have e3:a'.tmps.getD 3 undef = .pointer (some ⟨w.heap.size,0,none⟩):=(hfar 3 (by decide)).trans rfl
       have e8:a'.tmps.getD 8 undef = .pointer (some ⟨w.heap.size+1+1,0,none⟩):=(hfar 8 (by decide)).trans rfl
       have e14:a'.tmps.getD 14 undef = .slice B2 h c2:=(hfar 14 (by decide)).trans rfl
       have dep:∀j,j<8→Region.waitsFor .any _ i j=true→(GL [Eqv (.pointer (some ⟨w.heap.size,5,none⟩)),Eqv (.slice (some ⟨ba,oa,none⟩) n cv),Eqv (.agg #[.int .i64 p,.int .i64 c,.int .i64 h,.int .i64 s]),Eqv (.slice B2 h c2),Eqv (.int .i64 (num c q2:Int)),Eqv (.pointer (some ⟨ba,oa+num c q2*2,none⟩)),Eqv (.agg #[.int .i64 ym,.int .i64 (yd:Int)]),AlcD wr.heap.size 35 [.int .i64 0,.int .i64 0]]) j (a'.tmps.getD (r12d j) undef) W:=hdep
       have hi8:i=0∨i=1∨i=2∨i=3∨i=4∨i=5∨i=6∨i=7:=by omega
       clear hfar hdep hX hi
       rcases hi8 with rfl|rfl|rfl|rfl|rfl|rfl|rfl|rfl
       all_goals (simp at ho;subst ho)
       ·exact .inl ⟨.pointer (some ⟨w.heap.size,5,none⟩),W,by simp only[execOp,Act.eval,e3];go_simp,Bel.rfl' _,trivial,rfl⟩
       ·have d1:a'.tmps.getD 45 undef = .pointer (some ⟨w.heap.size,5,none⟩):=dep 0 (by omega) (by kernel_rfl)
        have q0:=(HF2.out.below hW).c0 5 rfl
        exact .inl ⟨.slice (some ⟨ba,oa,none⟩) n cv,W,by simp only[execOp,Act.eval,d1];go_simp,Bel.rfl' _,trivial,rfl⟩
       ·have q0:=(HF2.out.below hW).cellA (b:=w.heap.size+1+1) 2 0 rfl rfl
        have q1:=(HF2.out.below hW).cellA (b:=w.heap.size+1+1) 2 1 rfl rfl;have q2:=(HF2.out.below hW).cellA (b:=w.heap.size+1+1) 2 2 rfl rfl;have q3:=(HF2.out.below hW).cellA (b:=w.heap.size+1+1) 2 3 rfl rfl
        exact .inl ⟨.agg #[.int .i64 p,.int .i64 c,.int .i64 h,.int .i64 s],W,by simp only[execOp,Act.eval,e8];go_simp,Bel.rfl' _,trivial,rfl⟩
       ·exact .inl ⟨.slice B2 h c2,W,by simp only[execOp,Act.eval,e14];go_simp,Bel.rfl' _,trivial,rfl⟩
       ·have d1:a'.tmps.getD 47 undef = .agg #[.int .i64 p,.int .i64 c,.int .i64 h,.int .i64 s]:=dep 2 (by omega) (by kernel_rfl)
        have d2:a'.tmps.getD 48 undef = .slice B2 h c2:=dep 3 (by omega) (by kernel_rfl)
        refine .inr ⟨169,#[.agg #[.int .i64 p,.int .i64 c,.int .i64 h,.int .i64 s],.slice B2 h c2],by simp only[execOp,Act.eval,d1,d2];go_simp,?_⟩
        refine (HCN2.out W (HSQ2.out.below hW)).mono ?_
        rintro e W' ⟨rfl,hb'⟩
        exact⟨_,rfl,hb',trivial,rfl⟩
       ·have d1:a'.tmps.getD 46 undef = .slice (some ⟨ba,oa,none⟩) n cv:=dep 1 (by omega) (by kernel_rfl)
        have d2:a'.tmps.getD 49 undef = .int .i64 (num c q2:Int):=dep 4 (by omega) (by kernel_rfl)
        exact .inl ⟨.pointer (some ⟨ba,oa+num c q2*2,none⟩),W,by simp only[execOp,Act.eval,d1,d2];go_simp,Bel.rfl' _,trivial,rfl⟩
       ·have d1:a'.tmps.getD 50 undef = .pointer (some ⟨ba,oa+num c q2*2,none⟩):=dep 5 (by omega) (by kernel_rfl)
        have q0:=keep_cell hen2.out hW;have q1:=keep_cell hen3.out hW
        exact .inl ⟨.agg #[.int .i64 ym,.int .i64 (yd:Int)],W,by simp only[execOp,Act.eval,d1];go_simp,Bel.rfl' _,trivial,rfl⟩
       ·exact .inl ⟨.pointer (some ⟨W.heap.size,0,none⟩),W.alloc (.cells #[.int .i64 0,.int .i64 0] 35),by kernel_rfl,Bel.alloc _ _,trivial,alcD_new _ _ _ (Below.size hW)⟩
      intro v W3 hW hIW hg
      have g0:v 0 = .pointer (some ⟨w.heap.size,5,none⟩):=hg 0 (by omega)
      have g1:v 1 = .slice (some ⟨ba,oa,none⟩) n cv:=hg 1 (by omega)
      have g2:v 2 = .agg #[.int .i64 p,.int .i64 c,.int .i64 h,.int .i64 s]:=hg 2 (by omega)
      have g3:v 3 = .slice B2 h c2:=hg 3 (by omega)
      have g4:v 4 = .int .i64 (num c q2:Int):=hg 4 (by omega)
      have g5:v 5 = .pointer (some ⟨ba,oa+num c q2*2,none⟩):=hg 5 (by omega)
      have g6:v 6 = .agg #[.int .i64 ym,.int .i64 (yd:Int)]:=hg 6 (by omega)
      obtain⟨gy,g7,gl2,hB9,_⟩:AlcD wr.heap.size 35 [.int .i64 0,.int .i64 0] (v 7) W3:=hg 7 (by omega)
      simp only[List.drop_succ_cons,List.drop_zero,putV,r12d,g0,g1,g2,g3,g4,g5,g6,g7,Act.put]
      clear g0 g1 g2 g3 g4 g5 g6 g7 hg hIW;have HB3:Hid (Below wr.heap.size wr W3):=hW;have hz3:wr.heap.size≤W3.heap.size:=hW.size;clear hW hlc2;have HF3:=Lib.hid (HF2.out.below HB3.out);have HC3:=Lib.hid (HCg.out.below HB3.out)
      have hgxy:¬gx=gy:=by omega
      have hgyx:¬gy=gx:=by omega
      have x0:=hB9.cell 0 _ rfl;have x1:=hB9.cell 1 _ rfl;have x0':=hB9.froz 0 _ rfl;have x1':=hB9.froz 1 _ rfl;have xz:=hB9.lt;have y0:=HC3.out.cell 0 _ rfl;have y1:=HC3.out.cell 1 _ rfl;have yz:=HC3.out.lt;have HB9:=Lib.hid hB9;clear hB9
      have COMP:=Lib.hid fun (W:World)=>CC.out ym lm yd ld W HVY.out HVM.out
      have hcb1:=cmp_bd (sq s) ⟨ym,yd⟩ ⟨lm,ld⟩;generalize cmpE (sq s) ⟨ym,yd⟩ ⟨lm,ld⟩=cm at *;obtain⟨z0,c00,f00,c01,f01,c02,f02,c03,f03,c04,f04,c05,f05,z1,c10,f10,c11,f11,z2,c20,f20,c21,f21,c22,f22,c23,f23⟩:=HF3.out.xf8
      go_wp2_with (fail)
      clear z0 c00 f00 c01 f01 c02 f02 c03 f03 c04 f04 c05 f05 z1 c10 f10 c11 f11 z2 c20 f20 c21 f21 c22 f22 c23 f23;have HX4:=Lib.hid (HB9.out.duo9 (.int .i64 ym) (.int .i64 (yd:Int)))
      have hF4:Frm (fun x=>x=gy) W3 ((W3.setCell ⟨gy,0,none⟩ (.int .i64 ym)).setCell ⟨gy,1,none⟩ (.int .i64 (yd:Int))):=(Frm.set _ _ _ _).trans (Frm.set _ _ _ _)
      have HC4:=Lib.hid (HC3.out.frm hF4 hgxy)
      have HF4:=Lib.hid (HF3.out.outs hF4 (fun x hx=>by rw[hx];simp only[List.length_cons,List.length_nil];omega))
      have HG4:Hid (Frm (fun x=>x=gx) W1 ((W3.setCell ⟨gy,0,none⟩ (.int .i64 ym)).setCell ⟨gy,1,none⟩ (.int .i64 (yd:Int)))):=((HG.out.trans (Frm.of_below' _ HB3.out)).ownSet (by omega) _).ownSet (by omega) _
      refine (COMP.out _).mono ?_
      rintro e w5 ⟨rfl,hb5⟩
      have HX5:=Lib.hid (HX4.out.below hb5);have HC5:=Lib.hid (HC4.out.below hb5);have HF5:=Lib.hid (HF4.out.below hb5)
      have HG5:Hid (Frm (fun x=>x=gx) W1 w5):=HG4.out.trans (Frm.of_below' _ hb5)
      clear hb5 hF4 HX4 HC4 HF4 HG4 x0 x1 x0' x1' xz y0 y1 yz COMP HB9 HC3 HF3
      by_cases hcm:cm<0
      ·have HR:=Lib.hid (HGO.out (by rw[← HCS.out];exact hcm))
       have x0:=HX5.out.cell 0 _ rfl;have x1:=HX5.out.cell 1 _ rfl;have xz:=HX5.out.lt;have y0':=HC5.out.froz 0 _ rfl;have y1':=HC5.out.froz 1 _ rfl;have y0:=HC5.out.cell 0 _ rfl;have y1:=HC5.out.cell 1 _ rfl;have yz:=HC5.out.lt
       go_wp2_with (fail)
       go_roundw
       case rel=>exact⟨j+1,j+1,ym,yd,by omega,by go_num,HR.out,HC5.out.duo9 _ _,HG5.out.trans ((Frm.set _ _ _ _).trans (Frm.set _ _ _ _))⟩
       case measure=>(simp[intOf])<;>omega
      ·have HR:=Lib.hid (HKP.out (by
        have h:=HCS.out
        cases hl:ltE (sq s) ⟨ym,yd⟩ ⟨lm,ld⟩with
        | false=>rfl
        | true=>rw[hl]at h;exact absurd (h.mpr rfl) hcm))
       go_wp2_with (fail)
       go_roundw
       case rel=>exact⟨j+1,a',lm,ld,by omega,by go_num,HR.out,HC5.out,HG5.out⟩
       case measure=>(simp[intOf])<;>omega
     ·have hjm:j+1=ml:=by omega
      have hjn:¬(j:Int)<((ml-1:Nat):Int):=by omega
      have hjz:decide ((j:Int)<((ml-1:Nat):Int))=false:=decide_eq_false hjn
      have HVM:Hid (Val (sq s) ⟨lm,ld⟩):=HLV.out (L.take (j+1)) (fun x hx=>HLP.out x (List.mem_of_mem_take hx)) _ HLj.out
      have HLA:Hid (TR (a,b)=some ⟨lm,ld⟩):=by
       unfold Hid;have h:=HLj.out
       rw[List.take_of_length_le (by rw[HLL.out];omega)]at h
       rw[HRLk.out,h];rfl
      have HXS:Hid (allS TR ((rollsN s).take (k+1))=some (ys++[⟨lm,ld⟩])):=allS_go HLK.out hys.out.1 (by rw[HAB.out];exact HLA.out)
      have hyk:=hys.out.2.1
      have HVS:Hid (∀y∈ys++[(⟨lm,ld⟩:E)],Val (sq s) y):=fun y hy=>by
       rcases List.mem_append.1 hy with h|h
       ·exact hys.out.2.2 y h
       ·rw[List.mem_singleton.1 h];exact HVM.out
      have HROW:Hid ((wr.alloc (.cells #[.int .i64 lm,.int .i64 (ld:Int)] 35)).ownsRow (w.heap.size+3) 35 2 vx ys.length (exC ys)):=row_alloc (HG.out.row (own_below HO.out HB1.out) (fun x hx h=>by have:=HVL.out x hx;omega)) _
      have hTN:=two_new wr lm (ld:Int) 35;have HFA:=Lib.hid (HF2.out.alloc (.cells #[.int .i64 lm,.int .i64 (ld:Int)] 35));have HFTA:Hid (Frm T w (wr.alloc (.cells #[.int .i64 lm,.int .i64 (ld:Int)] 35))):=HFT2.out.alloc _;have y0:=HCg.out.cell 0 _ rfl;have y1:=HCg.out.cell 1 _ rfl;have yz:=HCg.out.lt;have HTN:=Lib.hid hTN;have HYK:=Lib.hid hyk;clear hTN HF2 HFT2 HO hyk
      go_wp2_with (at_builtin;(refine wpList_append_own_at _ rfl _ _ 29 rfl (w.heap.size+3) 35 i0 (.agg #[.int .i64 0,.int .i64 0]) 2 16 Tryz.underlying29 hi iz0 iz1 iz2 rfl (by decide) _ _ _ rfl HROW.out ⟨wr.heap.size,0,none⟩ 1 1 [.int .i64 lm,.int .i64 (ld:Int)] rfl rfl HTN.out (two_cells _ _) (by have:=HYK.out;unfold maxLen;omega) (by have:=HYK.out;omega) (by simp;omega) ?_);intro v' w4 hown hgrow _ hat)
      have hgO:∀x,some x=vx.ownBlock→w.heap.size+3≤x:=fun x hx=>(HVL.out x hx.symm).1
      have HF4:=Lib.hid (HFA.out.outs (Frm.of_grown hgrow) (fun x hx=>by simp only[List.length_cons,List.length_nil];have:=hgO x hx;omega))
      have HFT4:Hid (Frm T w w4):=HFTA.out.trans ((Frm.of_grown hgrow).mono (fun x hx=>HT.out _ (by have:=hgO x hx;omega)))
      have HO4:Hid (OwnE w4 (w.heap.size+3) v' (ys++[⟨lm,ld⟩])):=by
       unfold Hid OwnE;rw[exC_snoc,List.length_append]
       exact hown
      have HL4:Hid ((ys++[(⟨lm,ld⟩:E)]).length=k+1):=by unfold Hid;rw[List.length_append,HYK.out];rfl
      clear hown hgrow hat HROW HFA HFTA hgO HTN
      go_wp2_with (fail)
      go_roundw
      case rel=>exact⟨k+1,ys++[⟨lm,ld⟩],by omega,by go_num,⟨HXS.out,HL4.out,HVS.out⟩,⟨_,rfl,HO4⟩,HF4.out,HFT4.out⟩
      case measure=>(simp[intOf])<;>omega
  ·have hke:k=nr:=by omega
   have hki:¬(k:Int)<(nr:Int):=by omega
   have HALL:Hid (allS TR (rollsN s)=some ys):=by
    have h:=hys.out.1
    rwa [List.take_of_length_le (by rw[HNR.out];omega)]at h
   have HRE0:Hid (TO=(meanE (sq s) (rollsN s) ys).bind fun m=>addE (sq s) m oneE):=by
    unfold Hid
    rw[HTX.out,HALL.out];rfl
   obtain⟨Av,cu,hvx,hel,_⟩:=HO.out.el
   have hyl:ys.length=nr:=by rw[hys.out.2.1,hke]
   rw[hyl]at hvx hel;have MEAN2:=Lib.hid (MEAN.out wr Av cu nr ys HNR.out hel hys.out.2.2);have HMV2:=Lib.hid (HMV.out ys);subst hvx;clear hel hyl HO hys HFT;generalize meanE (sq s) (rollsN s) ys=o at *;have hzr:w.heap.size+3≤wr.heap.size:=HF.out.z;obtain⟨z0,c00,f00,c01,f01,c02,f02,c03,f03,c04,f04,c05,f05,z1,c10,f10,c11,f11,z2,c20,f20,c21,f21,c22,f22,c23,f23⟩:=HF.out.xf8
   rcases o with _|⟨m,d⟩
   ·have HRE:Hid (TO=none):=HRE0.out
    go_wp2_with (fail)
    clear z0 c00 f00 c01 f01 c02 f02 c03 f03 c04 f04 c05 f05 z1 c10 f10 c11 f11 z2 c20 f20 c21 f21 c22 f22 c23 f23
    refine MEAN2.out.mono ?_
    rintro e w2 ⟨rfl,hb2⟩
    simp only[Option.getD_none,Option.isSome_none]
    have HF2:=Lib.hid (HF.out.below hb2);have hz2:=hb2.size
    have hzz:w.heap.size+3≤w2.heap.size:=by omega
    clear HF hb2 MEAN2 hz2;obtain⟨z0,c00,f00,c01,f01,c02,f02,c03,f03,c04,f04,c05,f05,z1,c10,f10,c11,f11,z2,c20,f20,c21,f21,c22,f22,c23,f23⟩:=HF2.out.xf8
    go_wp2_with (fail)
    refine bodyPost_ret (v:=.tuple #[.agg #[.int .i64 0,.int .i64 0],.bool false]) (by simp[results,Tryz.results159,go_sem,c10,c11,z1,f10,f11]) rfl ⟨(by rw[HRE.out];rfl),?_⟩
    repeat (with_reducible first|exact HF2.out.belowW|refine bd_set ?_ (by omega) _|refine Below.alloc ?_ (by first|omega|(simp;omega)) _)
   ·have HRE1:Hid (TO=addE (sq s) ⟨m,d⟩ oneE):=HRE0.out
    have ADD2:=Lib.hid fun (W:World)=>ADD.out m d W (HMV2.out _ rfl)
    go_wp2_with (fail)
    clear z0 c00 f00 c01 f01 c02 f02 c03 f03 c04 f04 c05 f05 z1 c10 f10 c11 f11 z2 c20 f20 c21 f21 c22 f22 c23 f23
    refine MEAN2.out.mono ?_
    rintro e w2 ⟨rfl,hb2⟩
    simp only[Option.getD_some,Option.isSome_some]
    have HF2:=Lib.hid (HF.out.below hb2)
    have HFA:Hid (FrS (fun _=>False) w (w2.alloc (.cells #[.int .i64 m,.int .i64 (d:Int)] 35)) _):=(HF.out.below hb2).alloc _
    have hz2:=hb2.size
    have hzz:w.heap.size+3≤w2.heap.size:=by omega
    clear HF hb2 MEAN2 hz2;obtain⟨z0,c00,f00,c01,f01,c02,f02,c03,f03,c04,f04,c05,f05,z1,c10,f10,c11,f11,z2,c20,f20,c21,f21,c22,f22,c23,f23⟩:=HF2.out.xf8
    go_wp2_with (fail)
    clear z0 c00 f00 c01 f01 c02 f02 c03 f03 c04 f04 c05 f05 z1 c10 f10 c11 f11 z2 c20 f20 c21 f21 c22 f22 c23 f23
    refine (ADD2.out _).mono ?_
    generalize addE (sq s) ⟨m,d⟩ oneE=o1 at *
    rintro e w5 ⟨rfl,hb5⟩
    have HF5:=Lib.hid (HFA.out.below hb5);have hz5:=hb5.size;have hz5':w.heap.size+3≤w5.heap.size:=HF5.out.z;clear HFA HF2 hb5 ADD2;obtain⟨z0,c00,f00,c01,f01,c02,f02,c03,f03,c04,f04,c05,f05,z1,c10,f10,c11,f11,z2,c20,f20,c21,f21,c22,f22,c23,f23⟩:=HF5.out.xf8
    rcases o1 with _|⟨m1,d1⟩
    ·simp only[Option.getD_none,Option.isSome_none]
     go_wp2_with (fail)
     refine bodyPost_ret (v:=.tuple #[.agg #[.int .i64 0,.int .i64 0],.bool false]) (by simp[results,Tryz.results159,go_sem,c10,c11,z1,f10,f11]) rfl ⟨(by rw[HRE1.out];rfl),?_⟩
     repeat (with_reducible first|exact HF5.out.belowW|refine bd_set ?_ (by omega) _|refine Below.alloc ?_ (by first|omega|(simp;omega)) _)
    ·simp only[Option.getD_some,Option.isSome_some]
     go_wp2_with (fail)
     refine bodyPost_ret (v:=.tuple #[.agg #[.int .i64 m1,.int .i64 d1],.bool true]) (by simp[results,Tryz.results159,go_sem,c10,c11,z1,f10,f11]) rfl ⟨(by rw[HRE1.out];rfl),?_⟩
     repeat (with_reducible first|exact HF5.out.belowW|refine bd_set ?_ (by omega) _|refine Below.alloc ?_ (by first|omega|(simp;omega)) _)
end Go.Proofs.YtkaiilmgemaljaaGreat

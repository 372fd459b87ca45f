/- Contract of what an entry of win chances has to be, the program's. There are no conditions beyond those that it states. -/
import Derived.Test.YtkaiilmgemaljaaGreatPR19
set_option linter.unusedVariables false
set_option linter.unusedSimpArgs false
namespace Go.Proofs.YtkaiilmgemaljaaGreat
open Go.RowKit Ps Ra Ex
def r16w:Nat→Nat
 | 0=>54
 | 1=>55
 | 2=>56
 | 3=>57
 | 4=>58
 | 5=>59
 | 6=>60
 | 7=>61
 | 8=>62
 | 9=>63
 | 10=>64
 | 11=>65
 | 12=>66
 | 13=>53
 | 14=>67
 | 15=>68
 | 16=>18
 | _=>0
set_option maxRecDepth 100000 in
set_option maxHeartbeats 8000000 in
theorem trueWin_any (p kk:Int) (c h s n cv i:Nat) (A:Option Addr) (xs:List E) (u:Value) {q:List Int} (TO:Option E) (w:World) (hv:isVar p c h s=true) (hN5:wys h c≤500) (hN:wys h c*wys h c=n) (hn25:n≤2500) (hq:PosP h c q) (hin:i<n) (hval:∀x∈xs,Val (sq s) x)
  (hx:EL (fun _=>False) w A n xs) (hr:RSV (fun _=>False) w u (rsl s q)) (hR1:i / wys h c=0→0<i % wys h c→TO=some oneE) (hR2:i % wys h c=0→TO=some zeroE') (hR3:i / wys h c≠0→i % wys h c≠0→TO=tW h c s (fun j=>xs.getD j ⟨0,0⟩) q (i % wys h c)):
  Calls Tryz.prog 156 #[.agg #[.int .i64 p,.int .i64 c,.int .i64 h,.int .i64 s,.int .i64 kk,.slice A n cv],u,.int .i64 (i:Int)] w fun e w'=>e = .returned (.tuple #[exV TO,.bool TO.isSome])∧Below w.heap.size w w':=by
 obtain⟨i0,hi,iz0,iz1,iz2⟩:=info_parts Tryz.infoE;have hvv:=isVar_yes hv
 have hs1:1≤s:=by omega
 have hs6:s≤6:=by omega
 have hh1:0<h:=by omega
 have hh24:h≤24:=by omega
 have hc15:c≤15:=by omega
 obtain⟨hq1,hq36,_⟩:=sq_bd hs1 hs6;obtain⟨Ar,nr,cr,rfl,hRS,hncr⟩:=hr
 obtain⟨T,hT⟩:∃T:Nat→Prop,T=fun k=>w.heap.size≤k:=⟨_,rfl⟩
 have HT:Hid (∀k,w.heap.size≤k→T k):=fun k hk=>by rw[hT];exact hk
 have HTB:Hid (∀k,T k→w.heap.size≤k):=fun k hk=>by rw[hT]at hk;exact hk
 have HX:Hid (EL T w A n xs):=hx.spare fun b hb=>by rw[hT];omega
 have HR:=Lib.hid (hRS.set (T':=T) fun k hk=>.inr (HTB.out k hk))
 have hnr:(rollsN s).length=nr:=by have:=hRS.1;simpa[rsl]using this
 have hnr21:nr≤21:=by rw[← hnr];exact rolls_le hs6
 have HNR:=Lib.hid hnr
 have HF0:Hid (FrS (fun _=>False) w (((w.alloc (.cells #[.int .i64 p,.int .i64 c,.int .i64 h,.int .i64 s,.int .i64 kk,.slice A n cv] 85)).alloc (.cells #[.int .i64 0,.int .i64 0] 35)).alloc (.cells #[.int .i64 p,.int .i64 c,.int .i64 h,.int .i64 s] 25)) [[.int .i64 p,.int .i64 c,.int .i64 h,.int .i64 s,.int .i64 kk,.slice A n cv],[.int .i64 0,.int .i64 0],[.int .i64 p,.int .i64 c,.int .i64 h,.int .i64 s]]):=(((FrS.start w (fun _ h=>h.elim)).allocT (by simp) _ _).allocT (by simp) _ _).allocT (by simp) _ _
 have HFT0:Hid (Frm T w (((w.alloc (.cells #[.int .i64 p,.int .i64 c,.int .i64 h,.int .i64 s,.int .i64 kk,.slice A n cv] 85)).alloc (.cells #[.int .i64 0,.int .i64 0] 35)).alloc (.cells #[.int .i64 p,.int .i64 c,.int .i64 h,.int .i64 s] 25))):=(((Frm.refl _ _).alloc _).alloc _).alloc _
 have CN:=Lib.hid fun (B:Option Addr) (cq:Nat) (qq:List Int) (W:World) (hx:SL W B h qq) (hp:PosP h c qq)=>bearoffNumber_any p s c h B h cq qq W hx hp hc15 hh24
 have CC:=Lib.hid fun (ym xm:Int) (yd xd:Nat) (W:World) (h1:Val (sq s) ⟨ym,yd⟩) (h2:Val (sq s) ⟨xm,xd⟩)=>compareExact_any p c h ym xm s yd xd W hs1 hs6 h1 h2
 have OM:=Lib.hid fun (xn:Int) (xd:Nat) (W:World) (hx:Val (sq s) ⟨xn,xd⟩)=>oneMinus_any p c h xn s xd W hs1 hs6 hx
 have HWC:Hid (wysC h c=wys h c):=wysC_ok (by omega)
 have CB:=Lib.hid fun (W:World)=>BearoffCount_any p s c h W hv
 rw[HWC.out]at CB
 have MEAN:=Lib.hid fun (W:World) (A:Option Addr) (c0 n:Nat) (xs:List E) (hn:(rollsN s).length=n) (hx:EL (fun _=>False) W A n xs) (hval:∀x∈xs,Val (sq s) x)=>meanExact_any p c h s n c0 A xs W hv hx hn hval
 have HVE:Hid (∀j,j<n→Val (sq s) (xs.getD j ⟨0,0⟩)):=fun j hj=>hval _ (getD_mem' xs ⟨0,0⟩ (by rw[hx.1];exact hj))
 have HRES:Hid (∀a b,(a,b)∈rollsN s→resultsL q a b≠[]∧(resultsL q a b).length≤1000000∧∀x∈resultsL q a b,PosP h c x):=fun a b hab=>by
  obtain⟨r1,r2,r3⟩:=mem_rollsN.1 hab
  exact⟨results_some (by omega) r1 hq,Nat.le_trans (results_len (by omega) r1 hq hh24) (by omega),fun x hx=>(results_pos (by omega) r1 hq x hx).1⟩
 have HNM:Hid (∀x,PosP h c x→num c x<wys h c):=fun x hx=>num_lt hx
 have HN0:0<wys h c:=wys_pos h c;have HDM:=Nat.div_add_mod i (wys h c);have HML:=Nat.mod_lt i HN0
 have HDL:i / wys h c<wys h c:=Nat.div_lt_of_lt_mul (by rw[hN];exact hin)
 obtain⟨b,hb⟩:∃b,b=i % wys h c:=⟨_,rfl⟩;obtain⟨a0,ha0⟩:∃a0,a0=i / wys h c:=⟨_,rfl⟩;rw[← hb,← ha0]at HDM;rw[← hb]at HML hR1 hR2 hR3;rw[← ha0]at HDL hR1 hR3
 have HTX:Hid (tW h c s (fun j=>xs.getD j ⟨0,0⟩) q b=(allS (tRollW h c s (fun j=>xs.getD j ⟨0,0⟩) q b) (rollsN s)).bind (meanE (sq s) (rollsN s))):=rfl
 have HRL:Hid (∀a1 b1,tRollW h c s (fun j=>xs.getD j ⟨0,0⟩) q b (a1,b1)=(bestS (sq s) (fun y=>oneM (sq s) (xs.getD (b*wys h c+num c y) ⟨0,0⟩)) (resultsL q a1 b1)).map fun t=>t.2.2):=fun a b=>rfl
 have HLV:Hid (∀(N:Nat) (l:List (List Int)) t,bestS (sq s) (fun y=>oneM (sq s) (xs.getD (b*N+num c y) ⟨0,0⟩)) l=some t→Val (sq s) t.2.2):=fun N l t ht=>bestS_val hq1 (fun q x h=>addE_val hq1 h) ht
 have HD1:Hid (((i:Int) / (wys h c:Int))=(a0:Int)):=by rw[ha0];exact (Int.natCast_ediv _ _).symm
 have HD2:Hid (((i:Int) % (wys h c:Int))=(b:Int)):=by rw[hb];exact (Int.natCast_emod _ _).symm
 generalize hTW:tW h c s (fun j=>xs.getD j ⟨0,0⟩) q b=TW at *
 generalize tRollW h c s (fun j=>xs.getD j ⟨0,0⟩) q b=TR at *
 have HR1:=Lib.hid hR1;have HR2:=Lib.hid hR2;have HR3:=Lib.hid hR3;clear hv hvv hq hval hx hTW hT hb ha0 hR1 hR2 hR3 HWC;generalize wys h c=N at *
 have hNi:(0:Int)<(N:Int):=by omega
 have hNz:((N:Int) == 0)=false:=by simp;omega
 have hNn:¬(N:Int)=0:=by omega
 have HNN:=Lib.hid hN;have HDMh:=Lib.hid HDM;clear hN HDM
 go_enter Tryz.func156,Tryz.ntmps156
 go_wp2_with (fail)
 refine (CB.out _).mono ?_
 rintro e w1 ⟨rfl,hb1⟩
 have HF1:=Lib.hid (HF0.out.below hb1);have HFT1:Hid (Frm T w w1):=HFT0.out.trans (Frm.of_below' _ hb1);clear hb1 HF0 HFT0 CB
 go_wp2_with (fail)
 go_quiet (fail)
 have hwa:wrap64 ((i:Int) / (N:Int))=(a0:Int):=by rw[HD1.out];unfold wrap64;omega
 rw[hwa,HD2.out];have HF2:=Lib.hid (HF1.out.drewN nq);have HFT2:Hid (Frm T w (w1.drewN nq)):=HFT1.out.drewN nq;clear hwa HF1 HFT1 HD1 HD2;generalize w1.drewN nq=w2 at *;have HF1:=HF2;have HFT1:=HFT2;clear HF2 HFT2;have hzr:w.heap.size+3≤w2.heap.size:=HF1.out.z
 by_cases hb0:b=0
 ·have HRE:Hid (TO=some zeroE'):=HR2.out hb0
  have b1:((b:Int) == 0)=true:=by simp[hb0]
  have b2:decide ((0:Int)<(b:Int))=false:=decide_eq_false (by omega)
  have b2':decide (0<b)=false:=decide_eq_false (by omega)
  have b3:¬(0:Int)<(b:Int):=by omega
  clear hb0
  by_cases ha0:a0=0
  ·have a1:((a0:Int) == 0)=true:=by simp[ha0]
   clear ha0;obtain⟨z0,c00,f00,c01,f01,c02,f02,c03,f03,c04,f04,c05,f05,z1,c10,f10,c11,f11,z2,c20,f20,c21,f21,c22,f22,c23,f23⟩:=HF1.out.xf8
   go_wp2_with (fail)
   refine bodyPost_ret (v:=.tuple #[.agg #[.int .i64 0,.int .i64 0],.bool true]) (by simp[results,Tryz.results156,go_sem,c10,c11,z1,f10,f11]) rfl ⟨(by rw[HRE.out];rfl),?_⟩
   repeat (with_reducible first|exact HF1.out.belowW|refine bd_set ?_ (by omega) _|refine Below.alloc ?_ (by first|omega|(simp;omega)) _|refine drw ?_)
  ·have a1:((a0:Int) == 0)=false:=by simp;omega
   clear ha0;obtain⟨z0,c00,f00,c01,f01,c02,f02,c03,f03,c04,f04,c05,f05,z1,c10,f10,c11,f11,z2,c20,f20,c21,f21,c22,f22,c23,f23⟩:=HF1.out.xf8
   go_wp2_with (fail)
   refine bodyPost_ret (v:=.tuple #[.agg #[.int .i64 0,.int .i64 0],.bool true]) (by simp[results,Tryz.results156,go_sem,c10,c11,z1,f10,f11]) rfl ⟨(by rw[HRE.out];rfl),?_⟩
   repeat (with_reducible first|exact HF1.out.belowW|refine bd_set ?_ (by omega) _|refine Below.alloc ?_ (by first|omega|(simp;omega)) _|refine drw ?_)
 have b1:((b:Int) == 0)=false:=by simp;omega
 have b2:decide ((0:Int)<(b:Int))=true:=decide_eq_true (by omega)
 have b3:(0:Int)<(b:Int):=by omega
 by_cases ha0:a0=0
 ·have HRE:Hid (TO=some oneE):=HR1.out ha0 (by omega)
  have a1:((a0:Int) == 0)=true:=by simp[ha0]
  clear ha0;obtain⟨z0,c00,f00,c01,f01,c02,f02,c03,f03,c04,f04,c05,f05,z1,c10,f10,c11,f11,z2,c20,f20,c21,f21,c22,f22,c23,f23⟩:=HF1.out.xf8
  go_wp2_with (fail)
  refine bodyPost_ret (v:=.tuple #[.agg #[.int .i64 1,.int .i64 0],.bool true]) (by simp[results,Tryz.results156,go_sem,c10,c11,z1,f10,f11]) rfl ⟨(by rw[HRE.out];rfl),?_⟩
  repeat (with_reducible first|exact HF1.out.belowW|refine bd_set ?_ (by omega) _|refine Below.alloc ?_ (by first|omega|(simp;omega)) _|refine drw ?_)
 have HTO:Hid (TO=(allS TR (rollsN s)).bind (meanE (sq s) (rollsN s))):=by unfold Hid;rw[HR3.out ha0 hb0,HTX.out]
 have a1:((a0:Int) == 0)=false:=by simp;omega
 have HBN:Hid (b*N+N≤n):=by
  unfold Hid;have h1:b+1≤N:=HML;have h2:=Nat.mul_le_mul_right N h1;rw[Nat.add_mul,Nat.one_mul]at h2
  rw[← HNN.out];exact h2
 clear hb0 ha0 HR1 HR2 HR3 HTX;obtain⟨M,hM⟩:∃M,M=b*N:=⟨_,rfl⟩;rw[← hM]at HBN HRL
 have HM:Hid ((b:Int)*(N:Int)=(M:Int)):=by unfold Hid;rw[hM];exact (Int.natCast_mul _ _).symm
 have HLVM:Hid (∀(l:List (List Int)) t,bestS (sq s) (fun y=>oneM (sq s) (xs.getD (M+num c y) ⟨0,0⟩)) l=some t→Val (sq s) t.2.2):=by rw[hM];exact fun l t ht=>HLV.out N l t ht
 have hMn:M+N≤n:=HBN.out;clear hM HBN HLV
 go_wp2_with (fail)
 go_loopw [12,42] (fun v12 v42 wr=>∃(k:Nat) (ys:List E),k≤nr∧v42 = .int .i64 k∧Hid (allS TR ((rollsN s).take k)=some ys∧ys.length=k∧∀y∈ys,Val (sq s) y)∧(∃vx,vx=v12∧Hid (OwnE wr (w.heap.size+3) vx ys))∧Hid (FrS (fun _=>False) w wr [[.int .i64 p,.int .i64 c,.int .i64 h,.int .i64 s,.int .i64 kk,.slice A n cv],[.int .i64 0,.int .i64 0],[.int .i64 p,.int .i64 c,.int .i64 h,.int .i64 s]])∧Hid (Frm T w wr)) (fun _ v42 _=>nr-(intOf v42).toNat)
 case atStart=>exact⟨0,[],by omega,rfl,⟨rfl,rfl,fun _ h=>by cases h⟩,⟨_,rfl,World.ownsRow_nil _ _ _ _⟩,HF1.out,HFT1.out⟩
 case round=>
  clear HF1 HFT1;obtain⟨k,ys,hk,rfl,hys,⟨vx,rfl,HO⟩,HF,HFT⟩:=hrel;have hzf:w.heap.size+3≤wr.heap.size:=HF.out.z
  by_cases hlt:k<nr
  ·have hki:(k:Int)<(nr:Int):=by omega
   have hrs:=HR.out.frm HFT.out (fun k hk=>hk)
   obtain⟨br,orr,hAr,hrlt,_,hrc⟩:=hrs.2 (by omega)
   subst hAr;obtain⟨Bl,ml,cl,hcell,hpl,hml⟩:=hrc k hlt
   rw[rsl_getD (by rw[HNR.out];exact hlt)]at hpl
   have hmem:=getD_mem' (rollsN s) (0,0) (k:=k) (by rw[HNR.out];exact hlt)
   have HLK:Hid (k<(rollsN s).length):=by unfold Hid;rw[HNR.out];exact hlt
   rcases hab:(rollsN s).getD k (0,0) with⟨a,b9⟩
   rw[hab]at hpl hmem
   simp only at hpl
   obtain⟨hne,hlen,hLP⟩:=HRES.out a b9 hmem;have HRLk:=Lib.hid (HRL.out a b9);have HAB:=Lib.hid hab;generalize resultsL q a b9=L at *
   have hml0:0<ml:=by rw[← hpl.len];exact List.length_pos_iff.2 hne
   have HLL:=Lib.hid hpl.len
   have hmlen:ml≤1000000:=by rw[← hpl.len];exact hlen
   have HPL:=Lib.hid hpl;have HLP:=Lib.hid hLP
   have HVL:=Lib.hid fun (j:Nat) (hj:vx.ownBlock=some j)=>World.ownsRow.lt HO.out j hj
   have HC0:Hid (Cel (wr.alloc (.cells #[.int .i64 0,.int .i64 0] 35)) wr.heap.size [.int .i64 0,.int .i64 0]):=Cel.new wr #[.int .i64 0,.int .i64 0] _;have HFA:=Lib.hid (HF.out.alloc (.cells #[.int .i64 0,.int .i64 0] 35));have HFTA:Hid (Frm T w (wr.alloc (.cells #[.int .i64 0,.int .i64 0] 35))):=HFT.out.alloc _;have HOA:Hid (OwnE (wr.alloc (.cells #[.int .i64 0,.int .i64 0] 35)) (w.heap.size+3) vx ys):=row_alloc HO.out _
   have hz1:wr.heap.size<(wr.alloc (.cells #[.int .i64 0,.int .i64 0] 35)).heap.size:=by simp
   have HTA:Hid (Frm T wr (wr.alloc (.cells #[.int .i64 0,.int .i64 0] 35))):=(Frm.refl _ _).alloc _;clear hpl hLP hne hlen hab hmem
   go_wp2_with (fail)
   clear hcell;obtain⟨wa,rfl⟩:∃wa:World,wa=wr:=⟨_,rfl⟩;generalize wa.alloc (.cells #[.int .i64 0,.int .i64 0] 35)=W1 at *
   go_loopw [48] (fun v48 wr=>∃(j a':Nat) (lm:Int) (ld:Nat),j≤ml∧v48 = .int .i64 j∧Hid (bestS (sq s) (fun y=>oneM (sq s) (xs.getD (M+num c y) ⟨0,0⟩)) (L.take j)=some (j,a',⟨lm,ld⟩))∧Hid (Cel wr wa.heap.size [.int .i64 lm,.int .i64 (ld:Int)])∧Hid (Frm (fun x=>x=wa.heap.size) W1 wr)) (fun v48 _=>ml-(intOf v48).toNat)
   case atStart=>exact⟨0,0,0,0,by omega,rfl,rfl,HC0.out,Frm.refl _ _⟩
   case round=>
    clear HC0;obtain⟨j,a',lm,ld,hj,rfl,HLj,HCg,HG⟩:=hrel
    have HFT2:Hid (Frm T w wr):=HFTA.out.trans (HG.out.mono fun x hx=>by rw[hx];exact HT.out _ (by omega))
    have HF2:=Lib.hid (HFA.out.outs HG.out (fun x hx=>by rw[hx];simp only[List.length_cons,List.length_nil];omega))
    have hz1r:W1.heap.size≤wr.heap.size:=HG.out.size;have hgz:wa.heap.size<wr.heap.size:=HCg.out.lt
    by_cases hjl:j<ml
    ·have hji:(j:Int)<(ml:Int):=by omega
     have hLj:j<L.length:=by rw[HLL.out];exact hjl
     have HGT:Hid (Frm T wa wr):=HTA.out.trans (HG.out.mono fun x hx=>by rw[hx];exact HT.out _ (by omega))
     obtain⟨bl,ol,B2,m2,c2,hB2,hb2lt,hlc2,hsq2,hmq2⟩:=(HPL.out.frm HGT.out).at hjl;subst hB2;have hqp2:=HLP.out _ (getD_mem' L [] (k:=j) hLj)
     have hmh2:h=m2:=by rw[← hsq2.1.1];exact hqp2.1.symm
     subst hmh2;have hnum2:=HNM.out _ hqp2;obtain⟨K,hK⟩:∃K,K=M+num c (L.getD j []):=⟨_,rfl⟩
     have hKn:K<n:=by omega
     obtain⟨ba,oa,hAa,halt2,hen2,hen3⟩:=(HX.out.frm HFT2.out).at hKn;subst hAa
     rcases hxo2:xs.getD K ⟨0,0⟩with⟨ym,yd⟩
     have HVY:Hid (Val (sq s) ⟨ym,yd⟩):=by have:=HVE.out _ hKn;rwa [hxo2]at this
     obtain⟨zm,zd,zb,HOM,HOZ⟩:∃(zm:Int) (zd:Nat) (zb:Bool),Hid (∀W:World,Calls Tryz.prog 181 #[.agg #[.int .i64 p,.int .i64 c,.int .i64 h,.int .i64 s],.agg #[.int .i64 ym,.int .i64 (yd:Int)]] W fun e w'=>e = .returned (.tuple #[.agg #[.int .i64 zm,.int .i64 (zd:Int)],.bool zb])∧Below W.heap.size W w')∧Hid ((zb=true∧oneM (sq s) ⟨ym,yd⟩=some ⟨zm,zd⟩)∨(zb=false∧oneM (sq s) ⟨ym,yd⟩=none)):=by
      have h:=fun W=>OM.out ym yd W HVY.out
      cases ho:oneM (sq s) ⟨ym,yd⟩with
      | none=>exact⟨0,0,false,by rw[ho]at h;exact h,.inr ⟨rfl,rfl⟩⟩
      | some z=>exact⟨z.num,z.depth,true,by rw[ho]at h;exact h,.inl ⟨rfl,rfl⟩⟩
     have hf2z:∀z,oneM (sq s) ⟨ym,yd⟩=z→(fun y=>oneM (sq s) (xs.getD (M+num c y) ⟨0,0⟩)) (L.getD j [])=z:=fun z hz=>by
      show oneM (sq s) (xs.getD (M+num c (L.getD j [])) ⟨0,0⟩)=z
      rw[← hK,hxo2];exact hz
     have HNO:Hid (oneM (sq s) ⟨ym,yd⟩=none→TO=none):=fun h0=>by
      have h1:=bestS_stop hLj HLj.out (hf2z _ h0)
      rw[HTO.out,allS_stop HLK.out hys.out.1 (by rw[HAB.out,HRLk.out,h1];rfl)];rfl
     have HGO:Hid (∀z,oneM (sq s) ⟨ym,yd⟩=some z→(j=0∨ltE (sq s) ⟨lm,ld⟩ z=true)→bestS (sq s) (fun y=>oneM (sq s) (xs.getD (M+num c y) ⟨0,0⟩)) (L.take (j+1))=some (j+1,j,z)):=fun z hz h=>bestS_go hLj HLj.out (hf2z _ hz) h
     have HKP:Hid (∀z,oneM (sq s) ⟨ym,yd⟩=some z→j≠0→ltE (sq s) ⟨lm,ld⟩ z=false→bestS (sq s) (fun y=>oneM (sq s) (xs.getD (M+num c y) ⟨0,0⟩)) (L.take (j+1))=some (j+1,a',⟨lm,ld⟩)):=fun z hz h0 h=>bestS_keep hLj HLj.out (hf2z _ hz) h0 h
     rw[hxo2]at hen2 hen3
     simp only at hen2 hen3
     obtain⟨q2,hq2⟩:∃q2,q2=L.getD j []:=⟨_,rfl⟩;rw[← hq2]at hqp2 hnum2 hsq2 hK
     have HK:Hid ((M:Int)+(num c q2:Int)=(K:Int)):=by unfold Hid;rw[hK];exact (Int.natCast_add _ _).symm
     have hlc2:wr.cell? ⟨bl,ol+j,none⟩=some (.slice B2 h c2):=hlc2;have hen2:=Lib.hid hen2;have hen3:=Lib.hid hen3;have HSQ2:=Lib.hid hsq2.1
     have HCN2:=Lib.hid fun (W:World) (hx:SL W B2 h q2)=>CN.out B2 c2 q2 W hx hqp2
     clear hf2z hxo2 hqp2 hsq2 hmq2 hq2 hLj hK
     go_upto_region 16 with (fail)
     refine wp_region_early 17 (fun i=>i == 15) r16w Bel (fun _=>True) (GL [Eqv (.agg #[.int .i64 p,.int .i64 c,.int .i64 h,.int .i64 s]),Eqv (.pointer (some ⟨w.heap.size,5,none⟩)),Eqv (.slice (some ⟨ba,oa,none⟩) n cv),Eqv (.int .i64 (b:Int)),Eqv (.int .i64 (N:Int)),Eqv (.int .i64 (M:Int)),Eqv (.agg #[.int .i64 p,.int .i64 c,.int .i64 h,.int .i64 s]),Eqv (.slice B2 h c2),Eqv (.int .i64 (num c q2:Int)),Eqv (.int .i64 (K:Int)),Eqv (.pointer (some ⟨ba,oa+K*2,none⟩)),Eqv (.agg #[.int .i64 ym,.int .i64 (yd:Int)]),Eqv (.tuple #[.agg #[.int .i64 zm,.int .i64 (zd:Int)],.bool zb]),Eqv (.tuple #[.agg #[.int .i64 zm,.int .i64 (zd:Int)],.bool zb]),Eqv (.agg #[.int .i64 zm,.int .i64 (zd:Int)]),Eqv (.bool zb),AlcD wr.heap.size 35 [.int .i64 0,.int .i64 0]]) (by kernel_rfl) (by kernel_rfl) (fun _ _ _ _ _ h=>h) (fun _ _ _ h1 h2=>Bel.trans h1 h2) Bel.rfl' (GL.stab (by repeat (first|exact AllStb.nil|refine AllStb.cons (by first|exact stb_eq _|exact stb_alcD _ _ _) ?_))) (Bel.drew _) trivial ?_ ?_ ?_
     ·intro i o hi hX ho a' W hW hIW hfar hdep
      have e3:a'.tmps.getD 3 undef = .pointer (some ⟨w.heap.size,0,none⟩):=(hfar 3 (by decide)).trans rfl
      have e8:a'.tmps.getD 8 undef = .pointer (some ⟨w.heap.size+1+1,0,none⟩):=(hfar 8 (by decide)).trans rfl
      have e9:a'.tmps.getD 9 undef = .int .i64 (N:Int):=(hfar 9 (by decide)).trans rfl
      have e11:a'.tmps.getD 11 undef = .int .i64 (b:Int):=(hfar 11 (by decide)).trans rfl
      have e17:a'.tmps.getD 17 undef = .slice B2 h c2:=(hfar 17 (by decide)).trans rfl
      have dep:∀j,j<17→Region.waitsFor .any _ i j=true→(GL [Eqv (.agg #[.int .i64 p,.int .i64 c,.int .i64 h,.int .i64 s]),Eqv (.pointer (some ⟨w.heap.size,5,none⟩)),Eqv (.slice (some ⟨ba,oa,none⟩) n cv),Eqv (.int .i64 (b:Int)),Eqv (.int .i64 (N:Int)),Eqv (.int .i64 (M:Int)),Eqv (.agg #[.int .i64 p,.int .i64 c,.int .i64 h,.int .i64 s]),Eqv (.slice B2 h c2),Eqv (.int .i64 (num c q2:Int)),Eqv (.int .i64 (K:Int)),Eqv (.pointer (some ⟨ba,oa+K*2,none⟩)),Eqv (.agg #[.int .i64 ym,.int .i64 (yd:Int)]),Eqv (.tuple #[.agg #[.int .i64 zm,.int .i64 (zd:Int)],.bool zb]),Eqv (.tuple #[.agg #[.int .i64 zm,.int .i64 (zd:Int)],.bool zb]),Eqv (.agg #[.int .i64 zm,.int .i64 (zd:Int)]),Eqv (.bool zb),AlcD wr.heap.size 35 [.int .i64 0,.int .i64 0]]) j (a'.tmps.getD (r16w j) undef) W:=hdep
      have hi8:i=15:=by simpa[or_assoc]using hX
      clear hfar hdep hX hi;subst hi8
      simp at ho
      subst ho
      ·have d1:a'.tmps.getD 53 undef = .tuple #[.agg #[.int .i64 zm,.int .i64 (zd:Int)],.bool zb]:=dep 13 (by omega) (by kernel_rfl)
       exact⟨.bool zb,fun W'=>by simp only[execOp,Act.eval,d1];go_simp,rfl⟩
     ·intro i o hi hX ho a' W hW hIW hfar hdep
      have e3:a'.tmps.getD 3 undef = .pointer (some ⟨w.heap.size,0,none⟩):=(hfar 3 (by decide)).trans rfl
      have e8:a'.tmps.getD 8 undef = .pointer (some ⟨w.heap.size+1+1,0,none⟩):=(hfar 8 (by decide)).trans rfl
      have e9:a'.tmps.getD 9 undef = .int .i64 (N:Int):=(hfar 9 (by decide)).trans rfl
      have e11:a'.tmps.getD 11 undef = .int .i64 (b:Int):=(hfar 11 (by decide)).trans rfl
      have e17:a'.tmps.getD 17 undef = .slice B2 h c2:=(hfar 17 (by decide)).trans rfl
      have dep:∀j,j<17→Region.waitsFor .any _ i j=true→(GL [Eqv (.agg #[.int .i64 p,.int .i64 c,.int .i64 h,.int .i64 s]),Eqv (.pointer (some ⟨w.heap.size,5,none⟩)),Eqv (.slice (some ⟨ba,oa,none⟩) n cv),Eqv (.int .i64 (b:Int)),Eqv (.int .i64 (N:Int)),Eqv (.int .i64 (M:Int)),Eqv (.agg #[.int .i64 p,.int .i64 c,.int .i64 h,.int .i64 s]),Eqv (.slice B2 h c2),Eqv (.int .i64 (num c q2:Int)),Eqv (.int .i64 (K:Int)),Eqv (.pointer (some ⟨ba,oa+K*2,none⟩)),Eqv (.agg #[.int .i64 ym,.int .i64 (yd:Int)]),Eqv (.tuple #[.agg #[.int .i64 zm,.int .i64 (zd:Int)],.bool zb]),Eqv (.tuple #[.agg #[.int .i64 zm,.int .i64 (zd:Int)],.bool zb]),Eqv (.agg #[.int .i64 zm,.int .i64 (zd:Int)]),Eqv (.bool zb),AlcD wr.heap.size 35 [.int .i64 0,.int .i64 0]]) j (a'.tmps.getD (r16w j) undef) W:=hdep
      have hi8:i=0∨i=1∨i=2∨i=3∨i=4∨i=5∨i=6∨i=7∨i=8∨i=9∨i=10∨i=11∨i=12∨i=13∨i=14∨i=16:=by simp at hX;omega
      clear hfar hdep hX hi
      rcases hi8 with rfl|rfl|rfl|rfl|rfl|rfl|rfl|rfl|rfl|rfl|rfl|rfl|rfl|rfl|rfl|rfl
      all_goals (simp at ho;subst ho)
      ·have y0:=(HF2.out.below hW).cellA (b:=w.heap.size+1+1) 2 0 rfl rfl
       have y1:=(HF2.out.below hW).cellA (b:=w.heap.size+1+1) 2 1 rfl rfl;have y2:=(HF2.out.below hW).cellA (b:=w.heap.size+1+1) 2 2 rfl rfl;have y3:=(HF2.out.below hW).cellA (b:=w.heap.size+1+1) 2 3 rfl rfl
       exact .inl ⟨.agg #[.int .i64 p,.int .i64 c,.int .i64 h,.int .i64 s],W,by simp only[execOp,Act.eval,e8];go_simp,Bel.rfl' _,trivial,rfl⟩
      ·exact .inl ⟨.pointer (some ⟨w.heap.size,5,none⟩),W,by simp only[execOp,Act.eval,e3];go_simp,Bel.rfl' _,trivial,rfl⟩
      ·have d1:a'.tmps.getD 55 undef = .pointer (some ⟨w.heap.size,5,none⟩):=dep 1 (by omega) (by kernel_rfl)
       have y0:=(HF2.out.below hW).c0 5 rfl
       exact .inl ⟨.slice (some ⟨ba,oa,none⟩) n cv,W,by simp only[execOp,Act.eval,d1];go_simp,Bel.rfl' _,trivial,rfl⟩
      ·exact .inl ⟨.int .i64 (b:Int),W,by simp only[execOp,Act.eval,e11];go_simp,Bel.rfl' _,trivial,rfl⟩
      ·exact .inl ⟨.int .i64 (N:Int),W,by simp only[execOp,Act.eval,e9];go_simp,Bel.rfl' _,trivial,rfl⟩
      ·have d1:a'.tmps.getD 57 undef = .int .i64 (b:Int):=dep 3 (by omega) (by kernel_rfl)
       have d2:a'.tmps.getD 58 undef = .int .i64 (N:Int):=dep 4 (by omega) (by kernel_rfl)
       exact .inl ⟨.int .i64 (M:Int),W,by simp only[execOp,Act.eval,d1,d2];go_simp;rw[HM.out];exact IntWalk.i64_in _ (by omega),Bel.rfl' _,trivial,rfl⟩
      ·have y0:=(HF2.out.below hW).cellA (b:=w.heap.size+1+1) 2 0 rfl rfl
       have y1:=(HF2.out.below hW).cellA (b:=w.heap.size+1+1) 2 1 rfl rfl;have y2:=(HF2.out.below hW).cellA (b:=w.heap.size+1+1) 2 2 rfl rfl;have y3:=(HF2.out.below hW).cellA (b:=w.heap.size+1+1) 2 3 rfl rfl
       exact .inl ⟨.agg #[.int .i64 p,.int .i64 c,.int .i64 h,.int .i64 s],W,by simp only[execOp,Act.eval,e8];go_simp,Bel.rfl' _,trivial,rfl⟩
      ·exact .inl ⟨.slice B2 h c2,W,by simp only[execOp,Act.eval,e17];go_simp,Bel.rfl' _,trivial,rfl⟩
      ·have d1:a'.tmps.getD 60 undef = .agg #[.int .i64 p,.int .i64 c,.int .i64 h,.int .i64 s]:=dep 6 (by omega) (by kernel_rfl)
       have d2:a'.tmps.getD 61 undef = .slice B2 h c2:=dep 7 (by omega) (by kernel_rfl)
       refine .inr ⟨169,#[.agg #[.int .i64 p,.int .i64 c,.int .i64 h,.int .i64 s],.slice B2 h c2],by simp only[execOp,Act.eval,d1,d2];go_simp,?_⟩
       refine (HCN2.out W (HSQ2.out.below hW)).mono ?_
       rintro e W' ⟨rfl,hb'⟩
       exact⟨_,rfl,hb',trivial,rfl⟩
      ·have d1:a'.tmps.getD 59 undef = .int .i64 (M:Int):=dep 5 (by omega) (by kernel_rfl)
       have d2:a'.tmps.getD 62 undef = .int .i64 (num c q2:Int):=dep 8 (by omega) (by kernel_rfl)
       exact .inl ⟨.int .i64 (K:Int),W,by simp only[execOp,Act.eval,d1,d2];go_simp;rw[HK.out];exact IntWalk.i64_in _ (by omega),Bel.rfl' _,trivial,rfl⟩
      ·have d1:a'.tmps.getD 56 undef = .slice (some ⟨ba,oa,none⟩) n cv:=dep 2 (by omega) (by kernel_rfl)
       have d2:a'.tmps.getD 63 undef = .int .i64 (K:Int):=dep 9 (by omega) (by kernel_rfl)
       exact .inl ⟨.pointer (some ⟨ba,oa+K*2,none⟩),W,by simp only[execOp,Act.eval,d1,d2];go_simp,Bel.rfl' _,trivial,rfl⟩
      ·have d1:a'.tmps.getD 64 undef = .pointer (some ⟨ba,oa+K*2,none⟩):=dep 10 (by omega) (by kernel_rfl)
       have y0:=keep_cell hen2.out hW;have y1:=keep_cell hen3.out hW
       exact .inl ⟨.agg #[.int .i64 ym,.int .i64 (yd:Int)],W,by simp only[execOp,Act.eval,d1];go_simp,Bel.rfl' _,trivial,rfl⟩
      ·have d1:a'.tmps.getD 54 undef = .agg #[.int .i64 p,.int .i64 c,.int .i64 h,.int .i64 s]:=dep 0 (by omega) (by kernel_rfl)
       have d2:a'.tmps.getD 65 undef = .agg #[.int .i64 ym,.int .i64 (yd:Int)]:=dep 11 (by omega) (by kernel_rfl)
       refine .inr ⟨181,#[.agg #[.int .i64 p,.int .i64 c,.int .i64 h,.int .i64 s],.agg #[.int .i64 ym,.int .i64 (yd:Int)]],by simp only[execOp,Act.eval,d1,d2];go_simp,?_⟩
       refine (HOM.out W).mono ?_
       rintro e W' ⟨rfl,hb'⟩
       exact⟨_,rfl,hb',trivial,rfl⟩
      ·have d1:a'.tmps.getD 66 undef = .tuple #[.agg #[.int .i64 zm,.int .i64 (zd:Int)],.bool zb]:=dep 12 (by omega) (by kernel_rfl)
       exact .inl ⟨.tuple #[.agg #[.int .i64 zm,.int .i64 (zd:Int)],.bool zb],W,by simp only[execOp,Act.eval,d1];go_simp,Bel.rfl' _,trivial,rfl⟩
      ·have d1:a'.tmps.getD 53 undef = .tuple #[.agg #[.int .i64 zm,.int .i64 (zd:Int)],.bool zb]:=dep 13 (by omega) (by kernel_rfl)
       exact .inl ⟨.agg #[.int .i64 zm,.int .i64 (zd:Int)],W,by simp only[execOp,Act.eval,d1];go_simp,Bel.rfl' _,trivial,rfl⟩
      ·exact .inl ⟨.pointer (some ⟨W.heap.size,0,none⟩),W.alloc (.cells #[.int .i64 0,.int .i64 0] 35),by kernel_rfl,Bel.alloc _ _,trivial,alcD_new _ _ _ (Below.size hW)⟩
     intro v W3 hW hIW hg
     have g0:v 0 = .agg #[.int .i64 p,.int .i64 c,.int .i64 h,.int .i64 s]:=hg 0 (by omega)
     have g1:v 1 = .pointer (some ⟨w.heap.size,5,none⟩):=hg 1 (by omega)
     have g2:v 2 = .slice (some ⟨ba,oa,none⟩) n cv:=hg 2 (by omega)
     have g3:v 3 = .int .i64 (b:Int):=hg 3 (by omega)
     have g4:v 4 = .int .i64 (N:Int):=hg 4 (by omega)
     have g5:v 5 = .int .i64 (M:Int):=hg 5 (by omega)
     have g6:v 6 = .agg #[.int .i64 p,.int .i64 c,.int .i64 h,.int .i64 s]:=hg 6 (by omega)
     have g7:v 7 = .slice B2 h c2:=hg 7 (by omega)
     have g8:v 8 = .int .i64 (num c q2:Int):=hg 8 (by omega)
     have g9:v 9 = .int .i64 (K:Int):=hg 9 (by omega)
     have g10:v 10 = .pointer (some ⟨ba,oa+K*2,none⟩):=hg 10 (by omega)
     have g11:v 11 = .agg #[.int .i64 ym,.int .i64 (yd:Int)]:=hg 11 (by omega)
     have g12:v 12 = .tuple #[.agg #[.int .i64 zm,.int .i64 (zd:Int)],.bool zb]:=hg 12 (by omega)
     have g13:v 13 = .tuple #[.agg #[.int .i64 zm,.int .i64 (zd:Int)],.bool zb]:=hg 13 (by omega)
     have g14:v 14 = .agg #[.int .i64 zm,.int .i64 (zd:Int)]:=hg 14 (by omega)
     have g15:v 15 = .bool zb:=hg 15 (by omega)
     obtain⟨gy,g16,glgy,hB9,_⟩:AlcD wr.heap.size 35 [.int .i64 0,.int .i64 0] (v 16) W3:=hg 16 (by omega)
     simp only[List.drop_succ_cons,List.drop_zero,putV,r16w,g0,g1,g2,g3,g4,g5,g6,g7,g8,g9,g10,g11,g12,g13,g14,g15,g16,Act.put]
     clear g0 g1 g2 g3 g4 g5 g6 g7 g8 g9 g10 g11 g12 g13 g14 g15 g16 hg hIW;have HB3:Hid (Below wr.heap.size wr W3):=hW;have hz3:wr.heap.size≤W3.heap.size:=hW.size;clear hW hlc2;have HF3:=Lib.hid (HF2.out.below HB3.out);have HC3:=Lib.hid (HCg.out.below HB3.out)
     have hgxy:¬wa.heap.size=gy:=by omega
     have hgyx:¬gy=wa.heap.size:=by omega
     have x0:=hB9.cell 0 _ rfl;have x1:=hB9.cell 1 _ rfl;have x0':=hB9.froz 0 _ rfl;have x1':=hB9.froz 1 _ rfl;have xz:=hB9.lt;have y0:=HC3.out.cell 0 _ rfl;have y1:=HC3.out.cell 1 _ rfl;have y0':=HC3.out.froz 0 _ rfl;have y1':=HC3.out.froz 1 _ rfl;have yz:=HC3.out.lt
     have hF4:Frm (fun x=>x=gy) W3 ((W3.setCell ⟨gy,0,none⟩ (.int .i64 zm)).setCell ⟨gy,1,none⟩ (.int .i64 (zd:Int))):=(Frm.set _ _ _ _).trans (Frm.set _ _ _ _)
     have HC4:=Lib.hid (HC3.out.frm hF4 hgxy);have HX4:=Lib.hid (hB9.duo9 (.int .i64 zm) (.int .i64 (zd:Int)))
     have HF4:=Lib.hid (HF3.out.outs hF4 (fun x hx=>by rw[hx];simp only[List.length_cons,List.length_nil];omega))
     have HG4:Hid (Frm (fun x=>x=wa.heap.size) W1 ((W3.setCell ⟨gy,0,none⟩ (.int .i64 zm)).setCell ⟨gy,1,none⟩ (.int .i64 (zd:Int)))):=((HG.out.trans (Frm.of_below' _ HB3.out)).ownSet (by omega) _).ownSet (by omega) _
     clear hF4 hB9
     rcases HOZ.out with⟨hzb,hz⟩|⟨hzb,hz⟩
     ·subst hzb
      have HVZ:Hid (Val (sq s) ⟨zm,zd⟩):=addE_val hq1 hz;have HVM:Hid (Val (sq s) ⟨lm,ld⟩):=HLVM.out _ _ HLj.out;have HGZ:=Lib.hid (HGO.out _ hz);have HKZ:=Lib.hid (HKP.out _ hz);clear hz HGO HKP HNO HOZ
      by_cases hj0:j=0
      ·have HRj:=Lib.hid (HGZ.out (.inl hj0))
       have j0:((j:Int) == 0)=true:=by simp[hj0]
       have HJ0:=Lib.hid hj0;clear hj0;obtain⟨z0,c00,f00,c01,f01,c02,f02,c03,f03,c04,f04,c05,f05,z1,c10,f10,c11,f11,z2,c20,f20,c21,f21,c22,f22,c23,f23⟩:=HF3.out.xf8
       go_wp2_with (fail)
       clear z0 c00 f00 c01 f01 c02 f02 c03 f03 c04 f04 c05 f05 z1 c10 f10 c11 f11 z2 c20 f20 c21 f21 c22 f22 c23 f23
       go_roundw
       case rel=>exact⟨j+1,j,zm,zd,by omega,by go_num,HRj.out,HC4.out.duo9 _ _,HG4.out.trans ((Frm.set _ _ _ _).trans (Frm.set _ _ _ _))⟩
       case measure=>(simp[intOf])<;>omega
      ·have j0:((j:Int) == 0)=false:=by simp;omega
       have HJ0:=Lib.hid hj0
       have COMP:=Lib.hid fun (W:World)=>CC.out zm lm zd ld W HVZ.out HVM.out
       have HCS:Hid ((0<cmpE (sq s) ⟨zm,zd⟩ ⟨lm,ld⟩)=(ltE (sq s) ⟨lm,ld⟩ ⟨zm,zd⟩=true)):=cmp_swap;have hcb1:=cmp_bd (sq s) ⟨zm,zd⟩ ⟨lm,ld⟩;generalize cmpE (sq s) ⟨zm,zd⟩ ⟨lm,ld⟩=cm at *;clear hj0;obtain⟨z0,c00,f00,c01,f01,c02,f02,c03,f03,c04,f04,c05,f05,z1,c10,f10,c11,f11,z2,c20,f20,c21,f21,c22,f22,c23,f23⟩:=HF3.out.xf8
       go_wp2_with (fail)
       clear z0 c00 f00 c01 f01 c02 f02 c03 f03 c04 f04 c05 f05 z1 c10 f10 c11 f11 z2 c20 f20 c21 f21 c22 f22 c23 f23
       refine (COMP.out _).mono ?_
       rintro e w5 ⟨rfl,hb5⟩
       have HX5:=Lib.hid (HX4.out.below hb5);have HC5:=Lib.hid (HC4.out.below hb5)
       have HG5:Hid (Frm (fun x=>x=wa.heap.size) W1 w5):=HG4.out.trans (Frm.of_below' _ hb5)
       clear hb5 HX4 HC4 HG4 x0 x1 x0' x1' xz y0 y1 y0' y1' yz COMP HC3 HF3;have x0:=HX5.out.cell 0 _ rfl;have x1:=HX5.out.cell 1 _ rfl;have xz:=HX5.out.lt;have y0':=HC5.out.froz 0 _ rfl;have y1':=HC5.out.froz 1 _ rfl;have y0:=HC5.out.cell 0 _ rfl;have y1:=HC5.out.cell 1 _ rfl;have yz:=HC5.out.lt
       by_cases hcm:0<cm
       ·have HRj:=Lib.hid (HGZ.out (.inr (by rw[← HCS.out];exact hcm)))
        go_wp2_with (fail)
        go_roundw
        case rel=>exact⟨j+1,j,zm,zd,by omega,by go_num,HRj.out,HC5.out.duo9 _ _,HG5.out.trans ((Frm.set _ _ _ _).trans (Frm.set _ _ _ _))⟩
        case measure=>(simp[intOf])<;>omega
       ·have HRj:=Lib.hid (HKZ.out HJ0.out (by
         have h:=HCS.out
         cases hl:ltE (sq s) ⟨lm,ld⟩ ⟨zm,zd⟩with
         | false=>rfl
         | true=>rw[hl]at h;exact absurd (h.mpr rfl) hcm))
        go_wp2_with (fail)
        go_roundw
        case rel=>exact⟨j+1,a',lm,ld,by omega,by go_num,HRj.out,HC5.out,HG5.out⟩
        case measure=>(simp[intOf])<;>omega
     ·subst hzb
      have HRE:Hid (TO=none):=HNO.out hz;clear hz HGO HKP HNO HOZ
      have hzz:w.heap.size+3≤W3.heap.size:=by omega
      obtain⟨z0,c00,f00,c01,f01,c02,f02,c03,f03,c04,f04,c05,f05,z1,c10,f10,c11,f11,z2,c20,f20,c21,f21,c22,f22,c23,f23⟩:=HF3.out.xf8
      go_wp2_with (fail)
      refine bodyPost_ret (v:=.tuple #[.agg #[.int .i64 0,.int .i64 0],.bool false]) (by simp[results,Tryz.results156,go_sem,c10,c11,z1,f10,f11]) rfl ⟨(by rw[HRE.out];rfl),?_⟩
      repeat (with_reducible first|exact HF3.out.belowW|refine bd_set ?_ (by omega) _|refine Below.alloc ?_ (by first|omega|(simp;omega)) _|refine drw ?_)
    ·have hjm:j=ml:=by omega
     have hjn:¬(j:Int)<(ml:Int):=by omega
     have HVM:Hid (Val (sq s) ⟨lm,ld⟩):=HLVM.out _ _ HLj.out
     have HLA:Hid (TR (a,b9)=some ⟨lm,ld⟩):=by
      unfold Hid;have h:=HLj.out
      rw[List.take_of_length_le (by rw[HLL.out];omega)]at h
      rw[HRLk.out,h];rfl
     have HXS:Hid (allS TR ((rollsN s).take (k+1))=some (ys++[⟨lm,ld⟩])):=allS_go HLK.out hys.out.1 (by rw[HAB.out];exact HLA.out)
     have hyk:=hys.out.2.1
     have HVS:Hid (∀y∈ys++[(⟨lm,ld⟩:E)],Val (sq s) y):=fun y hy=>by
      rcases List.mem_append.1 hy with h|h
      ·exact hys.out.2.2 y h
      ·rw[List.mem_singleton.1 h];exact HVM.out
     have HROW:Hid ((wr.alloc (.cells #[.int .i64 lm,.int .i64 (ld:Int)] 35)).ownsRow (w.heap.size+3) 35 2 vx ys.length (exC ys)):=row_alloc (HG.out.row HOA.out (fun x hx h=>by have:=HVL.out x hx;omega)) _
     have HTN:=Lib.hid (two_new wr lm (ld:Int) 35);have HFB:=Lib.hid (HF2.out.alloc (.cells #[.int .i64 lm,.int .i64 (ld:Int)] 35));have HFTB:Hid (Frm T w (wr.alloc (.cells #[.int .i64 lm,.int .i64 (ld:Int)] 35))):=HFT2.out.alloc _;have y0:=HCg.out.cell 0 _ rfl;have y1:=HCg.out.cell 1 _ rfl;have yz:=HCg.out.lt;have HYK:=Lib.hid hyk;clear HF2 HFT2 HO HOA hyk
     go_wp2_with (at_builtin;(refine wpList_append_own_at _ rfl _ _ 29 rfl (w.heap.size+3) 35 i0 (.agg #[.int .i64 0,.int .i64 0]) 2 16 Tryz.underlying29 hi iz0 iz1 iz2 rfl (by decide) _ _ _ rfl HROW.out ⟨wr.heap.size,0,none⟩ 1 1 [.int .i64 lm,.int .i64 (ld:Int)] rfl rfl HTN.out (two_cells _ _) (by have:=HYK.out;unfold maxLen;omega) (by have:=HYK.out;omega) (by simp;omega) ?_);intro v' w4 hown hgrow _ hat)
     have hgO:∀x,some x=vx.ownBlock→w.heap.size+3≤x:=fun x hx=>(HVL.out x hx.symm).1
     have HF4:=Lib.hid (HFB.out.outs (Frm.of_grown hgrow) (fun x hx=>by simp only[List.length_cons,List.length_nil];have:=hgO x hx;omega))
     have HFT4:Hid (Frm T w w4):=HFTB.out.trans ((Frm.of_grown hgrow).mono (fun x hx=>HT.out _ (by have:=hgO x hx;omega)))
     have HO4:Hid (OwnE w4 (w.heap.size+3) v' (ys++[⟨lm,ld⟩])):=by
      unfold Hid OwnE;rw[exC_snoc,List.length_append]
      exact hown
     have HL4:Hid ((ys++[(⟨lm,ld⟩:E)]).length=k+1):=by unfold Hid;rw[List.length_append,HYK.out];rfl
     clear hown hgrow hat HROW HFB HFTB hgO HTN
     go_wp2_with (fail)
     go_roundw
     case rel=>exact⟨k+1,ys++[⟨lm,ld⟩],by omega,by go_num,⟨HXS.out,HL4.out,HVS.out⟩,⟨_,rfl,HO4⟩,HF4.out,HFT4.out⟩
     case measure=>(simp[intOf])<;>omega
  ·have hke:k=nr:=by omega
   have hki:¬(k:Int)<(nr:Int):=by omega
   have HALL:Hid (allS TR (rollsN s)=some ys):=by
    have h:=hys.out.1
    rwa [List.take_of_length_le (by rw[HNR.out];omega)]at h
   have HRE0:Hid (TO=meanE (sq s) (rollsN s) ys):=by
    unfold Hid
    rw[HTO.out,HALL.out];rfl
   obtain⟨Av,cu,hvx,hel,_⟩:=HO.out.el
   have hyl:ys.length=nr:=by rw[hys.out.2.1,hke]
   rw[hyl]at hvx hel;have MEAN2:=Lib.hid (MEAN.out wr Av cu nr ys HNR.out hel hys.out.2.2);subst hvx;clear hel hyl HO hys HFT;generalize meanE (sq s) (rollsN s) ys=o at *;obtain⟨z0,c00,f00,c01,f01,c02,f02,c03,f03,c04,f04,c05,f05,z1,c10,f10,c11,f11,z2,c20,f20,c21,f21,c22,f22,c23,f23⟩:=HF.out.xf8
   go_wp2_with (fail)
   clear z0 c00 f00 c01 f01 c02 f02 c03 f03 c04 f04 c05 f05 z1 c10 f10 c11 f11 z2 c20 f20 c21 f21 c22 f22 c23 f23
   refine MEAN2.out.mono ?_
   rintro e w3 ⟨rfl,hb2⟩
   have HF3:=Lib.hid (HF.out.below hb2);have hz2:=hb2.size
   have hzz:w.heap.size+3≤w3.heap.size:=by omega
   clear HF hb2 MEAN2 hz2;obtain⟨z0,c00,f00,c01,f01,c02,f02,c03,f03,c04,f04,c05,f05,z1,c10,f10,c11,f11,z2,c20,f20,c21,f21,c22,f22,c23,f23⟩:=HF3.out.xf8
   rcases o with _|⟨m,d⟩
   ·simp only[Option.getD_none,Option.isSome_none]
    go_wp2_with (fail)
    refine bodyPost_ret (v:=.tuple #[.agg #[.int .i64 0,.int .i64 0],.bool false]) (by simp[results,Tryz.results156,go_sem,c10,c11,z1,f10,f11]) rfl ⟨(by rw[HRE0.out];rfl),?_⟩
    repeat (with_reducible first|exact HF3.out.belowW|refine bd_set ?_ (by omega) _|refine Below.alloc ?_ (by first|omega|(simp;omega)) _|refine drw ?_)
   ·simp only[Option.getD_some,Option.isSome_some]
    go_wp2_with (fail)
    refine bodyPost_ret (v:=.tuple #[.agg #[.int .i64 m,.int .i64 d],.bool true]) (by simp[results,Tryz.results156,go_sem,c10,c11,z1,f10,f11]) rfl ⟨(by rw[HRE0.out];rfl),?_⟩
    repeat (with_reducible first|exact HF3.out.belowW|refine bd_set ?_ (by omega) _|refine Below.alloc ?_ (by first|omega|(simp;omega)) _|refine drw ?_)
end Go.Proofs.YtkaiilmgemaljaaGreat

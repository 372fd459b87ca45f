/- Part of one proof. There are no conditions. -/
import Derived.Test.YtkaiilmgemaljaaGreatRU6
import Derived.Test.YtkaiilmgemaljaaGreatRN71
import Derived.Test.YtkaiilmgemaljaaGreatRZb
import Derived.Test.YtkaiilmgemaljaaGreatRM24
import Derived.Deep.Cut
set_option maxHeartbeats 0
set_option linter.unusedVariables false
set_option linter.unusedSimpArgs false
set_option maxRecDepth 100000
namespace Go.Proofs.YtkaiilmgemaljaaGreat
open Go.RowKit Mo Ps Ra Ex
def AlcY (lo:Nat) (T:TypeId) (cs:List Value):RP:=fun v W=>∃g,v = .pointer (some ⟨g,0,none⟩)/\lo<=g/\Cel W g cs/\∃cur,W.heap[g]? = some (.cells cur T (0,0))
theorem stb_alcY (lo:Nat) (T:TypeId) (cs:List Value):Stb (AlcY lo T cs):=fun _ _ _ ⟨g,h1,h2,h3,cur,h4⟩ hb=>⟨g,h1,h2,h3.below hb,cur,(hb.block g h3.lt).trans h4⟩
theorem alcY_new {lo:Nat} (W:World) (cs:Array Value) (T:TypeId) (h:lo<=W.heap.size):AlcY lo T cs.toList (.pointer (some ⟨W.heap.size,0,none⟩)) (W.alloc (.cells cs T)):=⟨_,rfl,h,Cel.new W cs T,cs,heap_alloc_new W _⟩
theorem ownY_ne {W:World} {base:Nat} {e T:TypeId} {v:Value} {xs:List Int} {g:Nat} (ho:OwnS W base e v xs) (h:∃cur,W.heap[g]? = some (.cells cur T (0,0))) (hT:e≠T):∀k,v.ownBlock=some k->k≠g:=by
 intro k hk he
 subst he;obtain⟨cur',h⟩:=h;obtain⟨_,h4⟩:=ho
 rcases h4 with⟨h4,_⟩|⟨g,cap,cur,h4,_,h5,_⟩
 ·rw[h4]at hk;cases hk
 ·rw[h4]at hk
  simp[Value.ownBlock]at hk
  subst hk;rw[h]at h5;injection h5 with h5;injection h5 with _ h6
  exact hT h6.symm
def dsRM:Nat->Nat
 | 0=>68
 | 1=>69
 | 2=>70
 | 3=>71
 | 4=>72
 | 5=>73
 | 6=>74
 | 7=>75
 | 8=>76
 | 9=>77
 | 10=>67
 | 11=>78
 | 12=>79
 | 13=>80
 | 14=>16
 | _=>0
theorem rollmean_law (C:Option Addr) (n c:Nat) (bs:List Int) (w:World) (hC:SBy w C n bs):
  Calls Tryz.prog 6 #[.slice C n c] w fun e w'=>e = .returned (.bool true)/\Below w.heap.size w w':=by
 have HC:=h_ hC;clear hC
 by_cases hn:4096<n
 ·have hd:decide (4096<n)=true:=by simp[hn]
  go_enter Tryz.func6,Tryz.ntmps6
  go_wp2_with (fail)
  refine (kQ C n c w).mono ?_
  rintro e w' ⟨rfl,rfl⟩
  rw[hd]
  go_wp2_with (fail)
  go_ret
  exact⟨rfl,Bel.rfl' _⟩
 have hd:decide (4096<n)=false:=by simp[hn]
 have HD:=h_ (gA C n c bs w HC.out (by omega))
 clear HC
 go_enter Tryz.func6,Tryz.ntmps6
 go_wp2_with (fail)
 refine (kQ C n c w).mono ?_
 rintro e w' ⟨rfl,rfl⟩
 rw[hd]
 go_wp2_with (fail)
 refine HD.out.mono ?_
 rintro e w1 ⟨p,cv,h,s,m,ba,bj,v1,xs,v2,ys,a,b,rfl,hdv,hdm,hdc,h1,h2,hx,hy,hb⟩
 obtain⟨A1,k1,rfl,s1,m1⟩:=h1.read;obtain⟨A2,k2,rfl,s2,m2⟩:=h2.read;have H1:=h_ s1;have H2:=h_ s2;have HB:=h_ hb;have HDV:=h_ hdv;have HDM:=h_ hdm;have HDC:=h_ hdc;clear HD hb h1 h2 s1 s2 hdv hdm hdc hx hy;replace H1:=h_ (H1.out.alloc (.cells #[.int .i64 p,.int .i64 cv,.int .i64 h,.int .i64 s] 25));replace H2:=h_ (H2.out.alloc (.cells #[.int .i64 p,.int .i64 cv,.int .i64 h,.int .i64 s] 25));replace HB:=h_ (HB.out.alloc HB.out.size (.cells #[.int .i64 p,.int .i64 cv,.int .i64 h,.int .i64 s] 25));have HV:Hid (Cel (w1.alloc (.cells #[.int .i64 p,.int .i64 cv,.int .i64 h,.int .i64 s] 25)) (w1.heap.size) [.int .i64 p,.int .i64 cv,.int .i64 h,.int .i64 s]):=Cel.new w1 #[.int .i64 p,.int .i64 cv,.int .i64 h,.int .i64 s] _;replace H1:=h_ (H1.out.alloc (.cells #[.int .i64 m,.bool ba,.bool bj] 53));replace H2:=h_ (H2.out.alloc (.cells #[.int .i64 m,.bool ba,.bool bj] 53));replace HB:=h_ (HB.out.alloc HB.out.size (.cells #[.int .i64 m,.bool ba,.bool bj] 53));replace HV:=h_ (HV.out.alloc (.cells #[.int .i64 m,.bool ba,.bool bj] 53))
 have HR:Hid (Cel ((w1.alloc (.cells #[.int .i64 p,.int .i64 cv,.int .i64 h,.int .i64 s] 25)).alloc (.cells #[.int .i64 m,.bool ba,.bool bj] 53)) (w1.heap.size+1) [.int .i64 m,.bool ba,.bool bj]):=Cel.new' (w1.alloc (.cells #[.int .i64 p,.int .i64 cv,.int .i64 h,.int .i64 s] 25)) #[.int .i64 m,.bool ba,.bool bj] _ (by simp)
 replace H1:=h_ (H1.out.alloc (.cells #[.int .i64 a,.int .i64 b] 55));replace H2:=h_ (H2.out.alloc (.cells #[.int .i64 a,.int .i64 b] 55));replace HB:=h_ (HB.out.alloc HB.out.size (.cells #[.int .i64 a,.int .i64 b] 55));replace HV:=h_ (HV.out.alloc (.cells #[.int .i64 a,.int .i64 b] 55));replace HR:=h_ (HR.out.alloc (.cells #[.int .i64 a,.int .i64 b] 55))
 have HK:Hid (Cel (((w1.alloc (.cells #[.int .i64 p,.int .i64 cv,.int .i64 h,.int .i64 s] 25)).alloc (.cells #[.int .i64 m,.bool ba,.bool bj] 53)).alloc (.cells #[.int .i64 a,.int .i64 b] 55)) (w1.heap.size+1+1) [.int .i64 a,.int .i64 b]):=Cel.new' ((w1.alloc (.cells #[.int .i64 p,.int .i64 cv,.int .i64 h,.int .i64 s] 25)).alloc (.cells #[.int .i64 m,.bool ba,.bool bj] 53)) #[.int .i64 a,.int .i64 b] _ (by simp)
 go_wp2_with (fail)
 generalize (((w1.alloc (.cells #[.int .i64 p,.int .i64 cv,.int .i64 h,.int .i64 s] 25)).alloc (.cells #[.int .i64 m,.bool ba,.bool bj] 53)).alloc (.cells #[.int .i64 a,.int .i64 b] 55))=V1 at *;generalize w1.heap.size=g1 at *;obtain⟨r1,hr1⟩:∃r,r=rlR p cv h s m ba xs ys a b:=⟨_,rfl⟩;obtain⟨x1,d1,e1⟩:=r1;have E1:=h_ hr1;clear hr1;have K:=jt p cv h s m ba bj A1 A2 _ _ k1 k2 xs ys a b _ H1.out H2.out m1 m2;rw[<- E1.out]at K
 refine (K).mono ?_
 rintro e w2 ⟨rfl,hb⟩
 replace H1:=h_ (H1.out.below hb);replace H2:=h_ (H2.out.below hb);replace HB:=h_ (HB.out.trans (hb.mono HB.out.size));replace HV:=h_ (HV.out.below hb);replace HR:=h_ (HR.out.below hb);replace HK:=h_ (HK.out.below hb);clear hb;clear K;have cHV_0:=HV.out.cell 0 _ rfl;have cHV_1:=HV.out.cell 1 _ rfl;have cHV_2:=HV.out.cell 2 _ rfl;have cHV_3:=HV.out.cell 3 _ rfl;have cHV_z:=HV.out.lt;have cHR_0:=HR.out.cell 0 _ rfl;have cHR_1:=HR.out.cell 1 _ rfl;have cHR_2:=HR.out.cell 2 _ rfl;have cHR_z:=HR.out.lt;have cHK_0:=HK.out.cell 0 _ rfl;have cHK_1:=HK.out.cell 1 _ rfl;have cHK_z:=HK.out.lt;replace H1:=h_ (H1.out.alloc (.cells #[.int .i64 x1,.int .i64 d1] 35));replace H2:=h_ (H2.out.alloc (.cells #[.int .i64 x1,.int .i64 d1] 35));replace HB:=h_ (HB.out.alloc HB.out.size (.cells #[.int .i64 x1,.int .i64 d1] 35));replace HV:=h_ (HV.out.alloc (.cells #[.int .i64 x1,.int .i64 d1] 35));replace HR:=h_ (HR.out.alloc (.cells #[.int .i64 x1,.int .i64 d1] 35));replace HK:=h_ (HK.out.alloc (.cells #[.int .i64 x1,.int .i64 d1] 35));have HX:Hid (Cel (w2.alloc (.cells #[.int .i64 x1,.int .i64 d1] 35)) (w2.heap.size) [.int .i64 x1,.int .i64 d1]):=Cel.new w2 #[.int .i64 x1,.int .i64 d1] _
 go_wp2_with (fail)
 clear cHV_0 cHV_1 cHV_2 cHV_3 cHV_z cHR_0 cHR_1 cHR_2 cHR_z cHK_0 cHK_1 cHK_z;generalize (w2.alloc (.cells #[.int .i64 x1,.int .i64 d1] 35))=V2 at *;generalize w2.heap.size=g2 at *;have K:=iM p cv h s m ba bj A1 A2 _ _ k1 k2 xs ys a b _ H1.out H2.out m1 m2;rw[<- E1.out]at K
 refine (K).mono ?_
 rintro e w3 ⟨rfl,hb⟩
 replace H1:=h_ (H1.out.below hb);replace H2:=h_ (H2.out.below hb);replace HB:=h_ (HB.out.trans (hb.mono HB.out.size));replace HV:=h_ (HV.out.below hb);replace HR:=h_ (HR.out.below hb);replace HK:=h_ (HK.out.below hb);replace HX:=h_ (HX.out.below hb);clear hb;clear K
 replace H1:=h_ (SQ.of_sl (S:=fun j=>w3.heap.size<=j) H1.out (fun _ h=>h))
 replace H2:=h_ (SQ.of_sl (S:=fun j=>w3.heap.size<=j) H2.out (fun _ h=>h))
 have l1:=HV.out.lt;have l2:=HR.out.lt;have l3:=HK.out.lt;have l4:=HX.out.lt;have l0:=HB.out.size;have cHV_0:=HV.out.cell 0 _ rfl;have cHV_1:=HV.out.cell 1 _ rfl;have cHV_2:=HV.out.cell 2 _ rfl;have cHV_3:=HV.out.cell 3 _ rfl;have cHV_z:=HV.out.lt;have cHR_0:=HR.out.cell 0 _ rfl;have cHR_1:=HR.out.cell 1 _ rfl;have cHR_2:=HR.out.cell 2 _ rfl;have cHR_z:=HR.out.lt;have cHK_0:=HK.out.cell 0 _ rfl;have cHK_1:=HK.out.cell 1 _ rfl;have cHK_z:=HK.out.lt;have cHX_0:=HX.out.cell 0 _ rfl;have cHX_1:=HX.out.cell 1 _ rfl;have cHX_z:=HX.out.lt;replace H1:=h_ (H1.out.below (Bel.alloc _ (.cells #[.int .i64 x1,.int .i64 d1] 35)));replace H2:=h_ (H2.out.below (Bel.alloc _ (.cells #[.int .i64 x1,.int .i64 d1] 35)));replace HB:=h_ (HB.out.alloc HB.out.size (.cells #[.int .i64 x1,.int .i64 d1] 35));replace HV:=h_ (HV.out.alloc (.cells #[.int .i64 x1,.int .i64 d1] 35));replace HR:=h_ (HR.out.alloc (.cells #[.int .i64 x1,.int .i64 d1] 35));replace HK:=h_ (HK.out.alloc (.cells #[.int .i64 x1,.int .i64 d1] 35));replace HX:=h_ (HX.out.alloc (.cells #[.int .i64 x1,.int .i64 d1] 35));have HZ:Hid (Cel (w3.alloc (.cells #[.int .i64 x1,.int .i64 d1] 35)) (w3.heap.size) [.int .i64 x1,.int .i64 d1]):=Cel.new w3 #[.int .i64 x1,.int .i64 d1] _
 have b0:(e1 != e1)=false:=by simp
 by_cases h1:e1=0
 ·subst h1
  obtain⟨cN,hN,sN,ls,e,rfl,rfl,rfl,hv,rfl,rfl,hll,hlv,hlm,hv1,hv2,ho1,ho2,hlk⟩:=jq E1.out
  have hs6:sN<=6:=by have:=(aj hv).2.2.2.2.2.2.2;omega
  have hs1:1<=sN:=by have:=(aj hv).2.2.2.2.2.2.1;omega
  obtain⟨len,hlen⟩:∃len,ls.length=len:=⟨_,rfl⟩;rw[hlen]at hll hlk
  have hlen21:len<=21:=by rw[hll];exact ch hs6
  have hlen0:0<len:=by have h1:=aU sN;have h2:1*2<=sN*(sN+1):=Nat.mul_le_mul hs1 (by omega);omega
  have HLL:=h_ hll;have HLV:=h_ hlv;have HLM:=h_ hlm;have HLK:=h_ hlk;have HLEN:=h_ hlen
  have CSW:=h_ fun (W:World)=>eJ a b W
  have CIB:=h_ fun (A:Option Addr) (n cp:Nat) (q:List Int) (W:World) (hx:SL W A n q)=>dt p cN hN sN A n cp q W hx hv
  have CRL:=h_ fun (W:World)=>j8 p cN hN sN W hv
  have CME:=h_ fun (A:Option Addr) (c0:Nat) (W:World) (hx:EL (fun _=>False) W A len ls)=>jo p cN hN sN len c0 A ls e W hv hx HLL.out.symm HLV.out HLM.out
  generalize hsw:swp (a,b)=sw at *;obtain⟨sa,sb⟩:=sw;unfold cbV at CSW
  simp only at CSW HLK
  clear hll hlv hlm hlk hlen hv E1 hsw;obtain⟨i0,hi,iz0,iz1,iz2⟩:=info_parts Tryz.infoE;replace H1:=h_ (H1.out.below (Bel.alloc _ (.cells #[] 35)));replace H2:=h_ (H2.out.below (Bel.alloc _ (.cells #[] 35)));replace HB:=h_ (HB.out.alloc HB.out.size (.cells #[] 35));replace HV:=h_ (HV.out.alloc (.cells #[] 35));replace HR:=h_ (HR.out.alloc (.cells #[] 35));replace HK:=h_ (HK.out.alloc (.cells #[] 35));replace HX:=h_ (HX.out.alloc (.cells #[] 35));replace HZ:=h_ (HZ.out.alloc (.cells #[] 35))
  have HL:Hid (Cel ((w3.alloc (.cells #[.int .i64 e.num,.int .i64 (e.depth:Int)] 35)).alloc (.cells #[] 35)) (w3.heap.size+1) []):=Cel.new' (w3.alloc (.cells #[.int .i64 e.num,.int .i64 (e.depth:Int)] 35)) #[] _ (by simp)
  clear HL
  have HO:Hid (OwnE (((w3.alloc (.cells #[.int .i64 e.num,.int .i64 (e.depth:Int)] 35)).alloc (.cells #[] 35))) (w3.heap.size+1) (.slice (some ⟨w3.heap.size+1,0,none⟩) 0 0) (ls.take 0)):=by
   have:=fW (w3.alloc (.cells #[.int .i64 e.num,.int .i64 (e.depth:Int)] 35)) (base:=w3.heap.size+1) 35 (z:=2) (n:=0) #[] (by simp) (by unfold maxLen;omega) rfl
   show World.ownsRow _ _ _ 2 _ 0 []
   simpa using this
  go_wp2_with (fail)
  clear cHV_0 cHV_1 cHV_2 cHV_3 cHV_z cHR_0 cHR_1 cHR_2 cHR_z cHK_0 cHK_1 cHK_z cHX_0 cHX_1 cHX_z;generalize ((w3.alloc (.cells #[.int .i64 e.num,.int .i64 (e.depth:Int)] 35)).alloc (.cells #[] 35))=V3 at *;generalize w3.heap.size=g3 at *;clear HZ;have hgl:g3+1<V3.heap.size:=(World.ownsRow.lt HO.out (g3+1) rfl).2
  refine (CRL.out _).mono ?_
  rintro e' w7 ⟨vr,rfl,hor,hb⟩
  obtain⟨Ar,cr,rfl,her,_⟩:=hor.read (S:=fun k=>k=g3+1) (fun k hk=>by show ¬(_=_);omega)
  rw[<- HLL.out]at her ⊢;replace HO:=h_ (HO.out.below hb);have hb7:V3.heap.size<=w7.heap.size:=hb.size;replace H1:=h_ (H1.out.below hb);replace H2:=h_ (H2.out.below hb);replace HB:=h_ (HB.out.trans (hb.mono HB.out.size));replace HV:=h_ (HV.out.below hb);replace HR:=h_ (HR.out.below hb);replace HK:=h_ (HK.out.below hb);replace HX:=h_ (HX.out.below hb);clear hb
  obtain⟨S,hS⟩:∃S:Nat->Prop,S=fun k=>k=g3+1\/w7.heap.size<=k:=⟨_,rfl⟩
  have HRL:Hid (RL S w7 Ar len (ad sN)):=her.set' (S':=S) fun k hk=>by rw[hS]at hk;exact hk
  have HSS:=h_ hS;clear hor her hS CRL
  have HV7:Hid (g3+1<w7.heap.size):=by have:=hb7;unfold Hid;omega
  have HS3:Hid (∀j,S j->g3<=j):=fun j hj=>by have h7:=HV7.out;rw[HSS.out]at hj;rcases hj with h|h<;>omega
  have HSV:Hid (¬S g1/\¬S (g1+1)/\¬S (g1+1+1)/\¬S g2):=by have h7:=HV7.out;unfold Hid;rw[HSS.out];refine⟨?_,?_,?_,?_⟩<;>rintro (h|h)<;>omega
  have HSW:Hid (∀j,S j->w.heap.size<=j):=fun j hj=>by have:=HS3.out j hj;omega
  have HSN:Hid (∀W:World,w7.heap.size<=W.heap.size->∀j,W.heap.size<=j->S j):=fun W hW j hj=>by rw[HSS.out];exact .inr (by omega)
  have HSG:Hid (S (g3+1)):=by unfold Hid;rw[HSS.out];exact .inl rfl
  have HF:Hid (Frm S w7 w7):=Frm.refl S w7
  go_wp2_with (fail)
  go_loopw [12,14] (fun v12 v14 wr=>∃k:Nat,k<=len/\v14 = .int .i64 k/\(∃vx,vx=v12/\Hid (OwnE wr (g3+1) vx (ls.take k)/\∀j,vx.ownBlock=some j->S j))/\Hid (Frm S w7 wr)) (fun _ v14 _=>len-(intOf v14).toNat)
  case atStart=>exact⟨0,by omega,rfl,⟨_,rfl,HO.out,fun j hj=>by injection hj with hj;subst hj;exact HSG.out⟩,HF.out⟩
  case round=>
   clear HO HF;obtain⟨k,hk,rfl,⟨vx,rfl,hO⟩,HF⟩:=hrel;have HO:=h_ hO.out.1;have HVS:=h_ hO.out.2;have hzw:w7.heap.size<=wr.heap.size:=HF.out.size;clear hO;replace HV:=h_ (HV.out.frm HF.out HSV.out.1);replace HR:=h_ (HR.out.frm HF.out HSV.out.2.1);replace HK:=h_ (HK.out.frm HF.out HSV.out.2.2.1);replace HX:=h_ (HX.out.frm HF.out HSV.out.2.2.2);replace HB:=h_ (HB.out.trans (HF.out.below HB.out.size HSW.out));replace H1:=h_ (H1.out.frm (HF.out.mono HS3.out)).1;replace H2:=h_ (H2.out.frm (HF.out.mono HS3.out)).1;have hgr1:=HV.out.lt
   by_cases hlt:k<len
   focus
    have HYB:Hid (-9223372036854775808<=-(ls.getD k aY).num/\-(ls.getD k aY).num<=9223372036854775807):=by have:=HLV.out _ (ao ls aY (k:=k) (by rw[HLEN.out];exact hlt));have h1:=this.1;have h2:=this.2.1;unfold aA at h1 h2;exact⟨by omega,by omega⟩
    have hki:(k:Int)<(len:Int):=by omega
    obtain⟨q,hql,hqp,hbm,heq⟩:=HLK.out k hlt;obtain⟨br,ofr,hAr,_,q1,q2⟩:=(HRL.out.frm HF.out).at hlt;subst hAr
    have HTS:Hid (ls.take (k+1)=ls.take k++[ls.getD k aY]):=by unfold Hid;rw[List.take_succ_eq_append_getElem (by rw[HLEN.out];exact hlt)];simp[List.getD,show k<ls.length by rw[HLEN.out];exact hlt]
    have HTL:Hid ((ls.take k).length=k):=by unfold Hid;rw[List.length_take,HLEN.out];omega
    generalize ls.getD k aY=lk at *;obtain⟨yn,yd⟩:=lk
    simp only at hbm heq
    generalize ((ad sN).getD k (0,0)).1=ra at *;generalize ((ad sN).getD k (0,0)).2=rb at *
    have CB:Hid (∀W:World,SL W A1 xs.length xs->SL W A2 ys.length ys->Calls Tryz.prog 36 #[.agg #[.int .i64 p,.int .i64 cN,.int .i64 hN,.int .i64 sN],.agg #[.int .i64 m,.bool ba,.bool bj],.slice A1 xs.length k1,.slice A2 ys.length k2,.agg #[.int .i64 a,.int .i64 b],.agg #[.int .i64 (ra:Nat),.int .i64 (rb:Nat)]] W fun e w'=>∃v base,e = .returned (.tuple #[v,.agg #[.int .i64 yn,.int .i64 (yd:Int)],.int .i64 0])/\W.heap.size<=base/\OwnS w' base 2 v q/\Below W.heap.size W w'):=fun W h1 h2=>by
     have:=db p cN hN sN m ba bj A1 A2 _ _ k1 k2 xs ys a b (ra:Nat) (rb:Nat) W h1 h2 m1 m2;rw[hbm]at this;exact this
    have CE:Hid (∀(A:Option Addr) (cq:Nat) (W:World),SL W A2 ys.length ys->SL W A q.length q->q.length<=cq->Calls Tryz.prog 30 #[.agg #[.int .i64 p,.int .i64 cN,.int .i64 hN,.int .i64 sN],.agg #[.int .i64 m,.bool ba,.bool bj],.slice A2 ys.length k2,.slice A q.length cq,.agg #[.int .i64 sa,.int .i64 sb]] W fun e w'=>e = .returned (.tuple #[.agg #[.int .i64 (-yn),.int .i64 (yd:Int)],.int .i64 0])/\Below W.heap.size W w'):=fun A cq W h1 h2 h3=>by
     have:=eK p cN hN sN m ba bj A2 A _ _ k2 cq ys q sa sb W h1 h2 m2 h3;rw[heq]at this;exact this
    have HQP:=h_ hqp;have HQL:=h_ hql;clear hbm heq hqp hql
    go_wp2_with (fail)
    refine bM 15 (fun i=>i == 12||i == 13) dsRM Bel (fun _=>True) (GL [Eqv (.agg #[.int .i64 p,.int .i64 cN,.int .i64 hN,.int .i64 sN]),Eqv (.agg #[.int .i64 m,.bool ba,.bool bj]),Eqv (.slice A1 xs.length k1),Eqv (.slice A2 ys.length k2),Eqv (.agg #[.int .i64 a,.int .i64 b]),Eqv (.slice (some ⟨br,ofr,none⟩) len cr),Eqv (.int .i64 (k:Int)),Eqv (.pointer (some ⟨br,ofr+k*2,none⟩)),Eqv (.agg #[.int .i64 (ra:Nat),.int .i64 (rb:Nat)]),RowT (fun W b v=>OwnS W b 2 (v) q) wr.heap.size [.agg #[.int .i64 yn,.int .i64 (yd:Int)],.int .i64 0],RowT (fun W b v=>OwnS W b 2 (v) q) wr.heap.size [.agg #[.int .i64 yn,.int .i64 (yd:Int)],.int .i64 0],RowE (fun W b v=>OwnS W b 2 (v) q) wr.heap.size,Eqv (.agg #[.int .i64 yn,.int .i64 (yd:Int)]),Eqv (.int .i64 0),AlcY wr.heap.size 35 [.int .i64 0,.int .i64 0]]) (by kernel_rfl) (by kernel_rfl) (fun _ _ _ _ _ h=>h) (fun _ _ _ h1 h2=>Bel.trans h1 h2) Bel.rfl' (GL.stab (by repeat (first|exact AllStb.nil|refine AllStb.cons (by first|exact stb_eq _|exact stb_rowT stO_I|exact stb_rowE stO_I|exact stb_alcY _ _ _) ?_))) (Bel.drew _) trivial ?_ ?_ ?_
    focus
     refine ?za
    rotate_left
    focus
     refine ?zb
    rotate_left
    focus
     intro v V5 hW hIW hg
     have g0:v 0 = .agg #[.int .i64 p,.int .i64 cN,.int .i64 hN,.int .i64 sN]:=hg 0 (by omega)
     have g1:v 1 = .agg #[.int .i64 m,.bool ba,.bool bj]:=hg 1 (by omega)
     have g2:v 2 = .slice A1 xs.length k1:=hg 2 (by omega)
     have g3:v 3 = .slice A2 ys.length k2:=hg 3 (by omega)
     have g4:v 4 = .agg #[.int .i64 a,.int .i64 b]:=hg 4 (by omega)
     have g5:v 5 = .slice (some ⟨br,ofr,none⟩) len cr:=hg 5 (by omega)
     have g6:v 6 = .int .i64 (k:Int):=hg 6 (by omega)
     have g7:v 7 = .pointer (some ⟨br,ofr+k*2,none⟩):=hg 7 (by omega)
     have g8:v 8 = .agg #[.int .i64 (ra:Nat),.int .i64 (rb:Nat)]:=hg 8 (by omega)
     obtain⟨_,_,g9,_,_⟩:RowT (fun W b v=>OwnS W b 2 (v) q) wr.heap.size [.agg #[.int .i64 yn,.int .i64 (yd:Int)],.int .i64 0] (v 9) V5:=hg 9 (by omega)
     obtain⟨_,_,g10,_,_⟩:RowT (fun W b v=>OwnS W b 2 (v) q) wr.heap.size [.agg #[.int .i64 yn,.int .i64 (yd:Int)],.int .i64 0] (v 10) V5:=hg 10 (by omega)
     obtain⟨bs,hbs,ho⟩:RowE (fun W b v=>OwnS W b 2 (v) q) wr.heap.size (v 11) V5:=hg 11 (by omega)
     obtain⟨Gg,cg,g11,_,_⟩:=ho.read;rw[g11]at ho
     have g12:v 12 = .agg #[.int .i64 yn,.int .i64 (yd:Int)]:=hg 12 (by omega)
     have g13:v 13 = .int .i64 0:=hg 13 (by omega)
     obtain⟨bg,g14,gl,hA,hty⟩:AlcY wr.heap.size 35 [.int .i64 0,.int .i64 0] (v 14) V5:=hg 14 (by omega)
     simp only[List.drop_succ_cons,List.drop_zero,putV,dsRM,g0,g1,g2,g3,g4,g5,g6,g7,g8,g9,g10,g11,g12,g13,g14,Act.put]
     clear g0 g1 g2 g3 g4 g5 g6 g7 g8 g9 g10 g11 g12 g13 g14 hg hIW;have HW:=h_ hW
     have HN:=h_ (ownY_ne ho hty (by decide))
     have HQ:=h_ ho;have HA:=h_ hA;clear hW hty ho hA hbs;have yb0:=HA.out.cell 0 _ rfl;have yb1:=HA.out.cell 1 _ rfl;have yf0:=HA.out.froz 0 _ rfl;have yf1:=HA.out.froz 1 _ rfl;have ybl:=HA.out.lt
     go_upto_region 16 with (fail)
     clear yb0 yb1 yf0 yf1;have HB6:Hid (Below wr.heap.size wr ((V5.setCell ⟨bg,0,none⟩ (.int .i64 yn)).setCell ⟨bg,1,none⟩ (.int .i64 (yd:Int)))):=Below.setCell (p:=⟨bg,1,none⟩) (Below.setCell (p:=⟨bg,0,none⟩) HW.out gl _) gl _
     have HY:Hid (Cel ((V5.setCell ⟨bg,0,none⟩ (.int .i64 yn)).setCell ⟨bg,1,none⟩ (.int .i64 (yd:Int))) bg [.int .i64 yn,.int .i64 (yd:Int)]):=(HA.out.st (i:=0) (v:=.int .i64 yn) (by simp)).st (i:=1) (v:=.int .i64 (yd:Int)) (by simp)
     have HQ6:Hid (OwnS ((V5.setCell ⟨bg,0,none⟩ (.int .i64 yn)).setCell ⟨bg,1,none⟩ (.int .i64 (yd:Int))) bs 2 (.slice Gg q.length cg) q):=(Frm.set _ bg 1 _).own ((Frm.set _ bg 0 _).own HQ.out (fun j hj h=>HN.out j hj h)) (fun j hj h=>HN.out j hj h)
     clear HA HN HQ HW;generalize (V5.setCell ⟨bg,0,none⟩ (.int .i64 yn)).setCell ⟨bg,1,none⟩ (.int .i64 (yd:Int))=V6 at *;have hq6:=(HQ6.out.sl rfl);have HQS:=h_ hq6.1;have hqk:=hq6.2;clear hq6 HQ6;replace HV:=h_ (HV.out.below HB6.out);replace HR:=h_ (HR.out.below HB6.out);replace HK:=h_ (HK.out.below HB6.out);replace HX:=h_ (HX.out.below HB6.out);replace H1:=h_ (H1.out.below HB6.out);replace H2:=h_ (H2.out.below HB6.out);replace HF:=h_ (HF.out.trans (Frm.of_below' S HB6.out));replace HO:=h_ (HO.out.below HB6.out);replace HB:=h_ (HB.out.trans (HB6.out.mono HB.out.size));have hz6:wr.heap.size<=V6.heap.size:=HB6.out.size;clear HB6;have c0:=HV.out.cell 0 _ rfl;have c1:=HV.out.cell 1 _ rfl;have c2:=HV.out.cell 2 _ rfl;have c3:=HV.out.cell 3 _ rfl;have cz:=HV.out.lt
     go_wp2_with (fail)
     clear c0 c1 c2 c3 cz;have KB:=CIB.out Gg q.length cg q V6 HQS.out;rw[HQP.out]at KB
     refine KB.mono ?_
     rintro e' w8 ⟨rfl,hb⟩
     clear KB;replace HV:=h_ (HV.out.below hb);replace HR:=h_ (HR.out.below hb);replace HK:=h_ (HK.out.below hb);replace HX:=h_ (HX.out.below hb);replace H1:=h_ (H1.out.below hb);replace H2:=h_ (H2.out.below hb);replace HF:=h_ (HF.out.trans (Frm.of_below' S hb));replace HO:=h_ (HO.out.below hb);replace HB:=h_ (HB.out.trans (hb.mono HB.out.size));replace HY:=h_ (HY.out.below hb);replace HQS:=h_ (HQS.out.below hb);have hz8:V6.heap.size<=w8.heap.size:=hb.size;clear hb
     go_wp2_with (fail)
     refine aH 10 9 18 _ _ (.cells #[.int .i64 0,.int .i64 0] 35) (by kernel_rfl) (by kernel_rfl) rfl rfl rfl (fun _ _=>by kernel_rfl) rfl (aK _ _ _ _ rfl rfl) (fun _ _ _ _ h=>h) (by kernel_rfl) ?_
     apply Exists.intro
     refine⟨fun X hX=>?_,fun t1 t2=>?_⟩
     ·have hXb:Below w8.heap.size w8 X:=by obtain⟨t0,rfl⟩:=hX;exact aa w8 t0
      have XHV:=h_ (HV.out.below hXb);have XHR:=h_ (HR.out.below hXb);have XHK:=h_ (HK.out.below hXb);have XH2:=h_ (H2.out.below hXb);have XQS:=h_ (HQS.out.below hXb);clear hX hXb;have c0:=XHV.out.cell 0 _ rfl;have c1:=XHV.out.cell 1 _ rfl;have c2:=XHV.out.cell 2 _ rfl;have c3:=XHV.out.cell 3 _ rfl;have cz:=XHV.out.lt;have d0:=XHR.out.cell 0 _ rfl;have d1:=XHR.out.cell 1 _ rfl;have d2:=XHR.out.cell 2 _ rfl;have dz:=XHR.out.lt;have f0:=XHK.out.cell 0 _ rfl;have f1:=XHK.out.cell 1 _ rfl;have fz:=XHK.out.lt
      simp only[List.take_succ_cons,List.take_zero]
      repeat (first|go_big_quiet_step ((first|(go_at_call 38;exact more_call (CSW.out _))|(go_at_call 30;exact more_call (CE.out _ _ _ (XH2.out.more _) (XQS.out.more _) hqk))))|quiet_step ((first|(go_at_call 38;exact more_call (CSW.out _))|(go_at_call 30;exact more_call (CE.out _ _ _ (XH2.out.more _) (XQS.out.more _) hqk)))))
      exact wpQuiet_nil rfl
     simp only[List.drop_succ_cons,List.drop_zero,Act.put]
     have HBU:=h_ (cF w8 t1 t2 (.cells #[.int .i64 0,.int .i64 0] 35));have HXU:Hid (Cel (more ((more w8 t1).alloc (.cells #[.int .i64 0,.int .i64 0] 35)) t2) (more w8 t1).heap.size [.int .i64 0,.int .i64 0]):=(Cel.new (more w8 t1) #[.int .i64 0,.int .i64 0] 35).below (aa _ t2);have hbb:=ae w8 t1;generalize more ((more w8 t1).alloc (.cells #[.int .i64 0,.int .i64 0] 35)) t2=U at *;generalize (more w8 t1).heap.size=bb at *;have c0:=HXU.out.cell 0 _ rfl;have c1:=HXU.out.cell 1 _ rfl;have f0:=HXU.out.froz 0 _ rfl;have f1:=HXU.out.froz 1 _ rfl;have cz:=HXU.out.lt
     go_upto_region 19 with (fail)
     clear c0 c1 f0 f1 cz
     have HXU2:Hid (Cel ((U.setCell ⟨bb,0,none⟩ (.int .i64 (-yn))).setCell ⟨bb,1,none⟩ (.int .i64 (yd:Int))) bb [.int .i64 (-yn),.int .i64 (yd:Int)]):=(HXU.out.st (i:=0) (v:=.int .i64 (-yn)) (by simp)).st (i:=1) (v:=.int .i64 (yd:Int)) (by simp)
     have HBU2:=h_ (fe (fe HBU.out hbb (.int .i64 (-yn)) (i:=0)) hbb (.int .i64 (yd:Int)) (i:=1));clear HXU HBU;generalize (U.setCell ⟨bb,0,none⟩ (.int .i64 (-yn))).setCell ⟨bb,1,none⟩ (.int .i64 (yd:Int))=U2 at *;replace HV:=h_ (HV.out.below HBU2.out);replace HR:=h_ (HR.out.below HBU2.out);replace HK:=h_ (HK.out.below HBU2.out);replace HX:=h_ (HX.out.below HBU2.out);replace H1:=h_ (H1.out.below HBU2.out);replace H2:=h_ (H2.out.below HBU2.out);replace HF:=h_ (HF.out.trans (Frm.of_below' S HBU2.out));replace HO:=h_ (HO.out.below HBU2.out);replace HB:=h_ (HB.out.trans (HBU2.out.mono HB.out.size));replace HY:=h_ (HY.out.below HBU2.out);have hzu:w8.heap.size<=U2.heap.size:=HBU2.out.size;clear HBU2 HQS hqk;have hnn:IntKind.i64.wrap (-yn) = -yn:=IntWalk.i64_in _ HYB.out;have c0:=HXU2.out.cell 0 _ rfl;have c1:=HXU2.out.cell 1 _ rfl;have cz:=HXU2.out.lt;have d0:=HY.out.cell 0 _ rfl;have d1:=HY.out.cell 1 _ rfl;have dz:=HY.out.lt
     have bn1:(-yn != -yn)=false:=by simp
     have bn2:((yd:Int) != (yd:Int))=false:=by simp
     have hgl6:g3+1<=U2.heap.size:=by omega
     have HVL:=h_ fun (j:Nat) (hj:vx.ownBlock=some j)=>World.ownsRow.lt HO.out j hj
     go_wp2_with (at_builtin;(refine wpList_append_own_at _ rfl _ _ 29 rfl (g3+1) 35 i0 (.agg #[.int .i64 0,.int .i64 0]) 2 16 Tryz.underlying29 hi iz0 iz1 iz2 rfl (by decide) _ _ _ rfl (row_alloc HO.out _) ⟨U2.heap.size,0,none⟩ 1 1 [.int .i64 yn,.int .i64 (yd:Int)] rfl rfl (gE _ _ _ _) (dB _ _) (by have:=HTL.out;unfold maxLen;omega) (by have:=HTL.out;omega) (by simp;omega) ?_);intro v' w9 hown hgrow _ hat)
     clear c0 c1 cz d0 d1 dz hnn;have HFa:=h_ (Frm.of_grown hgrow)
     have HF9:=h_ ((HF.out.alloc (.cells #[.int .i64 yn,.int .i64 (yd:Int)] 35)).trans (HFa.out.mono fun j hj=>HVS.out j hj.symm))
     have HO9:Hid (OwnE w9 (g3+1) v' (ls.take (k+1))):=by unfold Hid OwnE;rw[HTS.out,kG,List.length_append];exact hown
     have HVS9:Hid (∀j,v'.ownBlock=some j->S j):=fun j hj=>by
      rcases hat with h|h
      ·exact HVS.out j (h.symm.trans hj)
      ·have hj2:=h.symm.trans hj;injection hj2 with hj2;exact HSN.out U2 (by omega) j (by simp at hj2;omega)
     clear hown hgrow hat HFa HO HF HVS
     go_wp2_with (fail)
     go_roundw
     case rel=>exact⟨k+1,by omega,by go_num,⟨_,rfl,HO9.out,HVS9.out⟩,HF9.out⟩
     case measure=>(simp[intOf])<;>omega
   rotate_left 2
   ·have hke:k=len:=by omega
    subst hke
    have hlt':ls.take k=ls:=List.take_of_length_le (by rw[HLEN.out];exact Nat.le_refl _)
    obtain⟨Ax,cx,rfl,hex,hcx⟩:=OwnE.readS (n:=k) (S:=fun _=>False) HO.out (by rw[hlt'];exact HLEN.out) (fun _ _ h=>h)
    rw[hlt']at hex;have HLX:=h_ hex;clear hex hlt' HO HF HVS;have c0:=HV.out.cell 0 _ rfl;have c1:=HV.out.cell 1 _ rfl;have c2:=HV.out.cell 2 _ rfl;have c3:=HV.out.cell 3 _ rfl;have cz:=HV.out.lt
    go_wp2_with (fail)
    clear c0 c1 c2 c3 cz
    refine (CME.out _ _ _ HLX.out).mono ?_
    rintro e' w8 ⟨rfl,hb⟩
    replace HX:=h_ (HX.out.below hb)
    replace HB:=h_ ((HB.out.trans (hb.mono HB.out.size)).alloc (by have:=hb.size;have:=HB.out.size;omega) (.cells #[.int .i64 e.num,.int .i64 (e.depth:Int)] 35))
    have ee:∀W:World,(binOp .eql 35 (.agg #[.int .i64 e.num,.int .i64 (e.depth:Int)]) (.agg #[.int .i64 e.num,.int .i64 (e.depth:Int)])).run Tryz.prog W = .ok (.bool true) W:=fun W=>by rw[eql_exact];simp
    have hl0:(0:Int)<(k:Int):=by omega
    have c0:=HX.out.cell 0 _ rfl;have c1:=HX.out.cell 1 _ rfl;have cz:=HX.out.lt;clear hb
    go_wp2_with (fail)
    go_ret
    exact⟨rfl,HB.out⟩
   case' za|zb=>
    intro i o hi hX ho a' W hW hIW hfar hdep
    have e3:a'.tmps.getD 3 undef = .pointer (some ⟨g1,0,none⟩):=(hfar 3 (by decide)).trans rfl
    have e4:a'.tmps.getD 4 undef = .pointer (some ⟨g1+1,0,none⟩):=(hfar 4 (by decide)).trans rfl
    have e5:a'.tmps.getD 5 undef = .slice A1 xs.length k1:=(hfar 5 (by decide)).trans rfl
    have e6:a'.tmps.getD 6 undef = .slice A2 ys.length k2:=(hfar 6 (by decide)).trans rfl
    have e7:a'.tmps.getD 7 undef = .pointer (some ⟨g1+1+1,0,none⟩):=(hfar 7 (by decide)).trans rfl
    have e13:a'.tmps.getD 13 undef = .slice (some ⟨br,ofr,none⟩) len cr:=(hfar 13 (by decide)).trans rfl
    have e14:a'.tmps.getD 14 undef = .int .i64 (k:Int):=(hfar 14 (by decide)).trans rfl
    have dep:∀j,j<15->Region.waitsFor .any _ i j=true->GL [Eqv (.agg #[.int .i64 p,.int .i64 cN,.int .i64 hN,.int .i64 sN]),Eqv (.agg #[.int .i64 m,.bool ba,.bool bj]),Eqv (.slice A1 xs.length k1),Eqv (.slice A2 ys.length k2),Eqv (.agg #[.int .i64 a,.int .i64 b]),Eqv (.slice (some ⟨br,ofr,none⟩) len cr),Eqv (.int .i64 (k:Int)),Eqv (.pointer (some ⟨br,ofr+k*2,none⟩)),Eqv (.agg #[.int .i64 (ra:Nat),.int .i64 (rb:Nat)]),RowT (fun W b v=>OwnS W b 2 (v) q) wr.heap.size [.agg #[.int .i64 yn,.int .i64 (yd:Int)],.int .i64 0],RowT (fun W b v=>OwnS W b 2 (v) q) wr.heap.size [.agg #[.int .i64 yn,.int .i64 (yd:Int)],.int .i64 0],RowE (fun W b v=>OwnS W b 2 (v) q) wr.heap.size,Eqv (.agg #[.int .i64 yn,.int .i64 (yd:Int)]),Eqv (.int .i64 0),AlcY wr.heap.size 35 [.int .i64 0,.int .i64 0]] j (a'.tmps.getD (dsRM j) undef) W:=hdep
   case za=>
    have hi8:i=12\/i=13:=by simpa using hX
    clear hfar hdep hX hi
    rcases hi8 with rfl|rfl
    all_goals (simp at ho;subst ho)
    ·obtain⟨u,bs,d1,h1,h2⟩:RowT (fun W b v=>OwnS W b 2 (v) q) wr.heap.size [.agg #[.int .i64 yn,.int .i64 (yd:Int)],.int .i64 0] (a'.tmps.getD 67 undef) W:=dep 10 (by omega) (by kernel_rfl)
     replace d1:a'.tmps.getD 67 undef = .tuple #[u,.agg #[.int .i64 yn,.int .i64 (yd:Int)],.int .i64 0]:=d1
     exact⟨.agg #[.int .i64 yn,.int .i64 (yd:Int)],fun W'=>by simp only[execOp,Act.eval,d1];go_simp,rfl⟩
    ·obtain⟨u,bs,d1,h1,h2⟩:RowT (fun W b v=>OwnS W b 2 (v) q) wr.heap.size [.agg #[.int .i64 yn,.int .i64 (yd:Int)],.int .i64 0] (a'.tmps.getD 67 undef) W:=dep 10 (by omega) (by kernel_rfl)
     replace d1:a'.tmps.getD 67 undef = .tuple #[u,.agg #[.int .i64 yn,.int .i64 (yd:Int)],.int .i64 0]:=d1
     exact⟨.int .i64 0,fun W'=>by simp only[execOp,Act.eval,d1];go_simp,rfl⟩
   case zb=>
    have hi8:i=0\/i=1\/i=2\/i=3\/i=4\/i=5\/i=6\/i=7\/i=8\/i=9\/i=10\/i=11\/i=14:=by simp at hX;omega
    clear hfar hdep hX hi
    rcases hi8 with rfl|rfl|rfl|rfl|rfl|rfl|rfl|rfl|rfl|rfl|rfl|rfl|rfl
    all_goals (simp at ho;subst ho)
    ·have zz:=HV.out.below hW
     have z0:=zz.cell 0 _ rfl;have z1:=zz.cell 1 _ rfl;have z2:=zz.cell 2 _ rfl;have z3:=zz.cell 3 _ rfl
     exact .inl ⟨.agg #[.int .i64 p,.int .i64 cN,.int .i64 hN,.int .i64 sN],W,by simp only[execOp,Act.eval,e3];go_simp,Bel.rfl' _,trivial,rfl⟩
    ·have zz:=HR.out.below hW
     have z0:=zz.cell 0 _ rfl;have z1:=zz.cell 1 _ rfl;have z2:=zz.cell 2 _ rfl
     exact .inl ⟨.agg #[.int .i64 m,.bool ba,.bool bj],W,by simp only[execOp,Act.eval,e4];go_simp,Bel.rfl' _,trivial,rfl⟩
    ·exact .inl ⟨.slice A1 xs.length k1,W,by simp only[execOp,Act.eval,e5];go_simp,Bel.rfl' _,trivial,rfl⟩
    ·exact .inl ⟨.slice A2 ys.length k2,W,by simp only[execOp,Act.eval,e6];go_simp,Bel.rfl' _,trivial,rfl⟩
    ·have zz:=HK.out.below hW
     have z0:=zz.cell 0 _ rfl;have z1:=zz.cell 1 _ rfl
     exact .inl ⟨.agg #[.int .i64 a,.int .i64 b],W,by simp only[execOp,Act.eval,e7];go_simp,Bel.rfl' _,trivial,rfl⟩
    ·exact .inl ⟨.slice (some ⟨br,ofr,none⟩) len cr,W,by simp only[execOp,Act.eval,e13];go_simp,Bel.rfl' _,trivial,rfl⟩
    ·exact .inl ⟨.int .i64 (k:Int),W,by simp only[execOp,Act.eval,e14];go_simp,Bel.rfl' _,trivial,rfl⟩
    ·have d0:a'.tmps.getD 73 undef = .slice (some ⟨br,ofr,none⟩) len cr:=dep 5 (by omega) (by kernel_rfl)
     have d1:a'.tmps.getD 74 undef = .int .i64 (k:Int):=dep 6 (by omega) (by kernel_rfl)
     exact .inl ⟨.pointer (some ⟨br,ofr+k*2,none⟩),W,by simp only[execOp,Act.eval,d0,d1];go_simp,Bel.rfl' _,trivial,rfl⟩
    ·have d0:a'.tmps.getD 75 undef = .pointer (some ⟨br,ofr+k*2,none⟩):=dep 7 (by omega) (by kernel_rfl)
     have z0:=keep_cell q1 hW;have z1:=keep_cell q2 hW
     exact .inl ⟨.agg #[.int .i64 (ra:Nat),.int .i64 (rb:Nat)],W,by simp only[execOp,Act.eval,d0];go_simp,Bel.rfl' _,trivial,rfl⟩
    ·have d0:a'.tmps.getD 68 undef = .agg #[.int .i64 p,.int .i64 cN,.int .i64 hN,.int .i64 sN]:=dep 0 (by omega) (by kernel_rfl)
     have d1:a'.tmps.getD 69 undef = .agg #[.int .i64 m,.bool ba,.bool bj]:=dep 1 (by omega) (by kernel_rfl)
     have d2:a'.tmps.getD 70 undef = .slice A1 xs.length k1:=dep 2 (by omega) (by kernel_rfl)
     have d3:a'.tmps.getD 71 undef = .slice A2 ys.length k2:=dep 3 (by omega) (by kernel_rfl)
     have d4:a'.tmps.getD 72 undef = .agg #[.int .i64 a,.int .i64 b]:=dep 4 (by omega) (by kernel_rfl)
     have d5:a'.tmps.getD 76 undef = .agg #[.int .i64 (ra:Nat),.int .i64 (rb:Nat)]:=dep 8 (by omega) (by kernel_rfl)
     refine .inr ⟨36,#[.agg #[.int .i64 p,.int .i64 cN,.int .i64 hN,.int .i64 sN],.agg #[.int .i64 m,.bool ba,.bool bj],.slice A1 xs.length k1,.slice A2 ys.length k2,.agg #[.int .i64 a,.int .i64 b],.agg #[.int .i64 (ra:Nat),.int .i64 (rb:Nat)]],by simp only[execOp,Act.eval,d0,d1,d2,d3,d4,d5];go_simp,?_⟩
     refine (CB.out W (H1.out.below hW) (H2.out.below hW)).mono ?_
     rintro e W' ⟨u,bs,rfl,hbs,ho,hb'⟩
     exact⟨_,rfl,hb',trivial,u,bs,rfl,Nat.le_trans (Below.size hW) hbs,ho⟩
    ·obtain⟨u,bs,d1,h1,h2⟩:RowT (fun W b v=>OwnS W b 2 (v) q) wr.heap.size [.agg #[.int .i64 yn,.int .i64 (yd:Int)],.int .i64 0] (a'.tmps.getD 77 undef) W:=dep 9 (by omega) (by kernel_rfl)
     replace d1:a'.tmps.getD 77 undef = .tuple #[u,.agg #[.int .i64 yn,.int .i64 (yd:Int)],.int .i64 0]:=d1
     exact .inl ⟨.tuple #[u,.agg #[.int .i64 yn,.int .i64 (yd:Int)],.int .i64 0],W,by simp only[execOp,Act.eval,d1];go_simp,Bel.rfl' _,trivial,u,bs,rfl,h1,h2⟩
    ·obtain⟨u,bs,d1,h1,h2⟩:RowT (fun W b v=>OwnS W b 2 (v) q) wr.heap.size [.agg #[.int .i64 yn,.int .i64 (yd:Int)],.int .i64 0] (a'.tmps.getD 67 undef) W:=dep 10 (by omega) (by kernel_rfl)
     replace d1:a'.tmps.getD 67 undef = .tuple #[u,.agg #[.int .i64 yn,.int .i64 (yd:Int)],.int .i64 0]:=d1
     exact .inl ⟨u,W,by simp only[execOp,Act.eval,d1];go_simp,Bel.rfl' _,trivial,bs,h1,h2⟩
    ·exact .inl ⟨.pointer (some ⟨W.heap.size,0,none⟩),W.alloc (.cells #[.int .i64 0,.int .i64 0] 35),by kernel_rfl,Bel.alloc _ _,trivial,alcY_new _ _ _ (Below.size hW)⟩
 ·have b1:(e1 != 0)=true:=by simp[h1]
  obtain⟨rfl,rfl⟩:=rlR_no E1.out h1
  have ee:∀W:World,(binOp .eql 35 (.agg #[.int .i64 0,.int .i64 0]) (.agg #[.int .i64 0,.int .i64 0])).run Tryz.prog W = .ok (.bool true) W:=fun W=>by rw[eql_exact];simp
  clear E1 h1
  go_wp2_with (fail)
  go_ret
  exact⟨rfl,HB.out⟩
end Go.Proofs.YtkaiilmgemaljaaGreat

/- Part of one proof. There are no conditions. -/
import Derived.Test.YtcmeoenkgmghkaaGreatPY15
set_option maxHeartbeats 0
set_option linter.unusedVariables false
set_option linter.unusedSimpArgs false
set_option maxRecDepth 100000
open Go.Value renaming slice->B,agg->J
open Go.IntKind renaming i64->D
open Go.Obj renaming cells->F
open Go.Ending renaming returned->I
namespace Go.Proofs.YtcmeoenkgmghkaaGreat
open Go.RowKit Pl Ps
theorem i9:∀(Q:List (List Bd×Nat)) (a:Nat),a<=Q.foldl (fun m x=>max m x.2) a/\∀x∈Q,x.2<=Q.foldl (fun m x=>max m x.2) a
 | [],a=>⟨Nat.le_refl _,fun x hx=>by cases hx⟩
 |y::Q,a=>by
   have h:=i9 Q (max a y.2)
   refine⟨Nat.le_trans (Nat.le_max_left _ _) h.1,fun x hx=>?_⟩
   rcases List.mem_cons.1 hx with rfl |hx
   ·exact Nat.le_trans (Nat.le_max_right _ _) h.1
   ·exact h.2 x hx
theorem le_maxQ{Q:List (List Bd×Nat)}{x:List Bd×Nat}(hx:x∈Q):x.2<=maxQ Q:=(i9 Q 0).2 x hx
theorem dK{α:Type}{l:List α}{i:Nat}(d:α)(hi:i<l.length):l.drop i=l.getD i d::l.drop (i+1):=by
 rw[List.drop_eq_getElem_cons hi]
 congr 1
 simp[List.getD,hi]
def RetAp(w:World)(m:Nat)(l:List Bd)(fl:Bool)(e:Ending)(w':World):Prop:=(fl=true->∃A k,e=I (.tuple #[B A l.length k,.bool true])/\PLs (fun k=>k<w.heap.size) w' m A l.length l/\l.length<=k)/\(fl=false->e=I (.tuple #[B none 0 0,.bool false]))/\Below w.heap.size w w'
theorem allPlays_any(P h C ra rb:Nat)(c s:Int)(A1 A2:Option Addr)(n1 c1 n2 c2:Nat)(own other:List Int)(w:World)(h1:SL w A1 n1 own)(h2:SL w A2 n2 other)(hb:Sd P C (own,other))(hC:C<=255)(hP:P<=24)(hh:h<=1000)(ha:1<=ra/\ra<=1000)(hbb:1<=rb/\rb<=1000):
  Calls Tryz.prog 101 #[(J #[.int D (P:Int),.int D c,.int D (h:Int),.int D s]),(J #[B A1 n1 c1,B A2 n2 c2]),(J #[.int D (ra:Int),.int D (rb:Int)])] w (RetAp w 4 (playsP P h (own,other) ra rb) (fineR P h (own,other) ra rb)):=by
 obtain⟨j0,hj,jz0,jz1,jz2⟩:=info_parts Tryz.infoPl
 have hn1:n1=P+1:=by rw[<-h1.1];exact hb.len1
 have hn2:n2=P+1:=by rw[<-h2.1];exact hb.len2
 have CSQ:=h_ fun(W:World) (hw:Below w.heap.size w W)=>lQ P h C ra rb c s A1 A2 n1 c1 n2 c2 own other W (h1.below hw) (h2.below hw) hb hC hP hh ha hbb
 have CB:=h_ fun(W:World) (hw:Below w.heap.size w W)=>cj A1 A2 n1 c1 n2 c2 own other W (h1.below hw) (h2.below hw) (by omega) (by omega) (by omega) (by omega)
 have HDB:=kg ha hbb;have hdl:=iq ra rb
 have HQX:Hid (∀x∈Qs P h (own,other) (dice ra rb),x.2<=4/\x.1.length<=390625/\∀y∈x.1,Sd P C y):=fun x hx=>by
  obtain⟨ds,hds,rfl⟩:=List.mem_map.1 hx;obtain⟨q1,q2⟩:=HDB ds hds
  refine⟨Nat.le_trans (fa ds _) q1,?_,jr (fun d hd=>(q2 d hd).1) (fun y hy=>by rw[List.mem_singleton.1 hy];exact hb)⟩
  refine Nat.le_trans (gY hP ds _) ?_
  rw[List.length_singleton,Nat.one_mul]
  exact Nat.le_trans (Nat.pow_le_pow_right (by omega) q1) (by decide)
 have hql:1<=(Qs P h (own,other) (dice ra rb)).length/\(Qs P h (own,other) (dice ra rb)).length<=2:=by unfold Qs;rw[List.length_map];exact hdl
 have HPZ:Hid (maxQ (Qs P h (own,other) (dice ra rb))=0->playsP P h (own,other) ra rb=[(own,other)]):=playsP_zero;have HPN:Hid (maxQ (Qs P h (own,other) (dice ra rb))≠0->playsP P h (own,other) ra rb=allQ (maxQ (Qs P h (own,other) (dice ra rb))) (Qs P h (own,other) (dice ra rb)) []):=playsP_allQ
 have HF:Hid (Fr w (((w.alloc (F #[.int D (P:Int),.int D c,.int D (h:Int),.int D s] 33)).alloc (F #[B A1 n1 c1,B A2 n2 c2] 35)).alloc (F #[.int D (ra:Int),.int D (rb:Int)] 37)) [[.int D (P:Int),.int D c,.int D (h:Int),.int D s],[B A1 n1 c1,B A2 n2 c2],[.int D (ra:Int),.int D (rb:Int)]]):=(((Fr.start w).allocT (by simp) _ _).allocT (by simp) _ _).allocT (by simp) _ _
 clear h1 h2 hb ha hbb HDB hdl hn1 hn2;generalize playsP P h (own,other) ra rb=PL at *;generalize fineR P h (own,other) ra rb=R3 at *;generalize Qs P h (own,other) (dice ra rb)=Q at *;obtain⟨nq,hnq⟩:∃nq,nq=Q.length:=⟨_,rfl⟩;have HNQ:=h_ hnq
 have hq2:nq<=2:=by omega
 clear hql
 go_enter Tryz.func101,Tryz.ntmps101
 go_wp2_with (fail)
 refine(CSQ.out _ HF.out.b).mono ?_
 rintro e w1 ⟨v,rfl,⟨cs,hrow,hcs,hnb⟩,hb1⟩
 have HF1:=h_ (HF.out.below hb1)
 obtain⟨A9,c9,hv9,hsl,hc9⟩:=bp (S:=fun _=>False) hrow (fun _ _ h=>h) (by omega)
 have CU:Hid (∀W:World,Below w1.heap.size w1 W->Calls Tryz.prog 169 #[B A9 nq c9] W fun e w'=>e=I (.int D (maxQ Q:Int))/\Below W.heap.size W w'):=fun W hw=>by
  rw[hnq]
  exact used_any _ 4 c9 A9 cs Q W (hsl.frm (Frm.of_below hw)) (fun i hi=>(hcs i hi).frm (Frm.of_below' _ hw)) (by omega) (fun i hi=>Nat.le_trans (HQX.out _ (ak Q _ hi)).1 (by omega))
 have HCS:=h_ hcs;have HSL:=h_ hsl
 have hzs:(((w.alloc (F #[.int D (P:Int),.int D c,.int D (h:Int),.int D s] 33)).alloc (F #[B A1 n1 c1,B A2 n2 c2] 35)).alloc (F #[.int D (ra:Int),.int D (rb:Int)] 37)).heap.size=w.heap.size+3:=by simp
 have HLO:Hid (∀k,v.ownBlock=some k->w.heap.size+3<=k):=fun k hk=>by have:=(World.ownsRow.lt hrow k hk).1;omega
 rw[<-hnq]at hv9;subst hv9;clear hrow hcs hnb hsl HF CSQ hnq hb1 hzs
 rcases R3 with _|_
 ·have HRE:Hid (RetAp w 4 PL false (I (.tuple #[B none 0 0,.bool false])) w1):=⟨fun h=>(by cases h),fun _=>rfl,HF1.out.b⟩
  go_wp2_with (fail)
  go_ret2
  exact HRE.out
 ·go_wp2_with (fail)
  refine(CU.out _ (Below.refl _ _)).mono ?_
  rintro e w2 ⟨rfl,hb2⟩
  have HF2:=h_ (HF1.out.below hb2);have HB12:=h_ hb2;have hz12:w1.heap.size<=w2.heap.size:=hb2.size;have hzf:w.heap.size+3<=w1.heap.size:=HF1.out.z;clear CU hb2;obtain⟨N,hN⟩:∃N,N=maxQ Q:=⟨_,rfl⟩;rw[<-hN]at HPZ HPN ⊢
  have HNM:Hid (∀x∈Q,x.2<=N):=fun x hx=>by rw[hN];exact le_maxQ hx
  clear hN
  by_cases hN0:N=0
  ·have b0:((N:Int) == 0)=true:=by simp[hN0]
   have HPE:=h_ (HPZ.out hN0);clear hN0 HPZ HPN
   have z0:=HF2.out.l0 (by simp)
   have c10:=HF2.out.c1 0 rfl;have c11:=HF2.out.c1 1 rfl
   go_wp2_with (fail)
   clear z0 c10 c11
   refine(CB.out _ HF2.out.b).mono ?_
   rintro e w3 ⟨g1,k1,g2,k2,rfl,ho1,ho2,_,hb3⟩
   have HRE:Hid (RetAp w 4 PL true (I (.tuple #[B (some ⟨w3.heap.size,0,none⟩) 1 1,.bool true])) (w3.alloc (F #[B none 0 0,B (some ⟨g1,0,none⟩) own.length k1,B (some ⟨g2,0,none⟩) other.length k2] 85))):=by
    have hz3:=hb3.size
    have q1:=OPl.made (S:=fun k=>k<w.heap.size) (m:=4) (base:=w.heap.size) (e:=85) (cs:=[B none 0 0,B (some ⟨g1,0,none⟩) own.length k1,B (some ⟨g2,0,none⟩) other.length k2]) (bs:=[(own,other)]) w3 (by omega) (fun k hk h9=>by have h9:k<w.heap.size:=h9;omega) (PEs.one ⟨StV.nil_ _ _ _,PV.own ho1 (fun k hk h9=>by have h9:k<w.heap.size:=h9;omega),PV.own ho2 (fun k hk h9=>by have h9:k<w.heap.size:=h9;omega)⟩) (by simp[maxLen])
    obtain⟨A8,c8,hv8,hp8,hc8⟩:=q1.read;injection hv8 with hA8 _ hc8';subst hA8 hc8';rw[HPE.out]
    exact⟨fun _=>⟨_,_,rfl,hp8,hc8⟩,fun h=>(by cases h),(HF2.out.below hb3).b.alloc (by omega) _⟩
   go_wp2_with (fail)
   go_ret2
   exact HRE.out
  ·have b0:((N:Int) == 0)=false:=by simp;omega
   have HPE:=h_ (HPN.out hN0)
   have hUl:(Q.flatMap (·.1)).length<maxLen:=by
    have h9:=iN (·.1) 390625 Q (fun x hx=>(HQX.out x hx).2.1)
    have:Q.length<=2:=by rw[<-HNQ.out];exact hq2
    unfold maxLen;omega
   have HUL:=h_ hUl;have hmm:=@run_makeMap Tryz.prog;have HFA:Hid (Fr w (w2.alloc (.map #[] 0)) [[.int D (P:Int),.int D c,.int D (h:Int),.int D s],[B A1 n1 c1,B A2 n2 c2],[.int D (ra:Int),.int D (rb:Int)]]):=HF2.out.alloc _
   have HSA:Hid (SeenM (w2.alloc (.map #[] 0)) w2.heap.size (Q.flatMap (·.1)) P C []):=SeenM.made w2 _ P C
   have HBA:Hid (Below w2.heap.size w2 (w2.alloc (.map #[] 0))):=(Below.refl _ _).alloc (Nat.le_refl _) _
   have HZA:Hid (w2.heap.size+1<=(w2.alloc (.map #[] 0)).heap.size):=by unfold Hid;simp
   clear hUl HPZ HPN HF1 CB
   go_wp2_with (fail)
   clear hmm
   go_loopw [12,38] (fun v12 v38 wr=>∃(i:Nat) (acc:List Bd),i<=nq/\v38= .int D i/\(∃vx,vx=v12/\Hid (OPl (fun k=>k<w.heap.size\/k=w2.heap.size) wr 4 (w2.heap.size+1) 85 vx acc))/\Hid (SeenM wr w2.heap.size (Q.flatMap (·.1)) P C acc)/\Hid (acc.length<=i*390625)/\Hid (PL=allQ N (Q.drop i) acc)/\Hid (Below w2.heap.size w2 wr)/\Hid (w2.heap.size+1<=wr.heap.size)/\Hid (Fr w wr [[.int D (P:Int),.int D c,.int D (h:Int),.int D s],[B A1 n1 c1,B A2 n2 c2],[.int D (ra:Int),.int D (rb:Int)]])) (fun _ v38 _=>nq-(intOf v38).toNat)
   case atStart=>exact⟨0,[],by omega,rfl,⟨_,rfl,OPl.nil_ _ _ _ _ _⟩,HSA.out,by simp[Hid],by rw[HPE.out];rfl,HBA.out,HZA.out,HFA.out⟩
   case round=>
    clear HFA HSA HBA HPE HZA;obtain⟨i,acc,hin,rfl,⟨vx,rfl,HO⟩,HS,HAL,HPR,HB,HZ,HF⟩:=hrel
    by_cases hlt:i<nq
    ·have hki:(i:Int)<(nq:Int):=by omega
     have hiQ:i<Q.length:=by have:=HNQ.out;omega
     have HDR:Hid (Q.drop i=Q.getD i ([],0)::Q.drop (i+1)):=dK _ hiQ;have hQm:=ak Q ([],0) hiQ;obtain⟨_,hrl,hrs⟩:=HQX.out _ hQm;have hkm:=HNM.out _ hQm;obtain⟨g,cg,Ag,cr,hv,hkc,_,-,hgc,hrc,hpl⟩:=HCS.out i hiQ
     obtain⟨b9,o9,rfl,hb9,_,hcell⟩:=HSL.out.2 (by have:=HNQ.out;omega)
     have HBf:Below w1.heap.size w1 wr:=HB12.out.trans (HB.out.mono hz12)
     have y0:=(Frm.of_below HBf).cell' (hcell i (by omega)) id
     rw[hv]at y0;have z0:=(Frm.of_below HBf).cell' hgc id
     have HPW:Hid (∀W:World,Below w2.heap.size w2 W->PLs (wth (fun k=>k<(((w.alloc (F #[.int D (P:Int),.int D c,.int D (h:Int),.int D s] 33)).alloc (F #[B A1 n1 c1,B A2 n2 c2] 35)).alloc (F #[.int D (ra:Int),.int D (rb:Int)] 37)).heap.size) (B (some ⟨b9,o9,none⟩) nq c9)) W 4 Ag (Q.getD i ([],0)).1.length (Q.getD i ([],0)).1):=fun W hw=>hpl.below (HB12.out.trans (hw.mono hz12))
     have HUM:Hid (∀y∈(Q.getD i ([],0)).1,y∈Q.flatMap (·.1)):=fun y hy=>List.mem_flatMap.2 ⟨_,hQm,hy⟩
     generalize Q.getD i ([],0)=X at *;obtain⟨row,k⟩:=X
     simp only at *
     have HRS:=h_ hrs;have HRL:=h_ hrl;obtain⟨K1,hK1⟩:∃K1,K1=k+1:=⟨_,rfl⟩;rw[<-hK1]at y0 hkc;clear hcell hv HBf hpl hQm hiQ hrs hrl
     by_cases hkN:k+1<=N
     ·have hle:(K1:Int)<=(N:Int):=by omega
      have HPR2:Hid (PL=allQ N (Q.drop (i+1)) acc):=by
       unfold Hid;rw[HPR.out,HDR.out]
       show(if k+1<=N then _ else _)=_
       rw[if_pos hkN]
      have HAL2:Hid (acc.length<=(i+1)*390625):=Nat.le_trans HAL.out (Nat.mul_le_mul_right _ (Nat.le_succ i));clear HPR HDR hkN z0 hgc
      go_wp2_with (fail)
      exact⟨⟨i+1,acc,by omega,by go_num,⟨vx,rfl,HO⟩,HS,HAL2,HPR2,HB,HZ,HF⟩,by simp[intOf];omega⟩
     ·have hle:¬(K1:Int)<=(N:Int):=by omega
      have hkN2:k=N:=by omega
      have hlt2:(N:Int)<(K1:Int):=by omega
      rw[hkN2]at z0
      have HPR2:Hid (PL=if N=1 then joinP acc row else allQ N (Q.drop (i+1)) (joinP acc row)):=by
       unfold Hid;rw[HPR.out,HDR.out]
       show(if k+1<=N then _ else _)=_
       rw[if_neg hkN]
      obtain⟨rl,hrl2⟩:∃rl,rl=row.length:=⟨_,rfl⟩;rw[<-hrl2]at z0 hrc HPW;have HRLN:=h_ hrl2
      have hrl6:rl<=390625:=by rw[hrl2];exact HRL.out
      obtain⟨wo,rfl⟩:∃wo:World,wo=wr:=⟨_,rfl⟩;clear HPR HDR hkN hkN2 hgc hrl2 hK1
      go_wp2_with (fail)
      go_loopw [12,51] (fun v12 v51 wr=>∃(k:Nat),k<=rl/\v51= .int D k/\(∃vx,vx=v12/\Hid (OPl (fun k=>k<w.heap.size\/k=w2.heap.size) wr 4 (w2.heap.size+1) 85 vx (joinP acc (row.take k))))/\Hid (SeenM wr w2.heap.size (Q.flatMap (·.1)) P C (joinP acc (row.take k)))/\Hid (Below w2.heap.size w2 wr)/\Hid (w2.heap.size+1<=wr.heap.size)/\Hid (Fr w wr [[.int D (P:Int),.int D c,.int D (h:Int),.int D s],[B A1 n1 c1,B A2 n2 c2],[.int D (ra:Int),.int D (rb:Int)]])) (fun _ v51 _=>rl-(intOf v51).toNat)
      case atStart=>exact⟨0,by omega,rfl,⟨_,rfl,HO.out⟩,HS.out,HB.out,HZ.out,HF.out⟩
      case round=>
       clear HO HS HB HF HZ;obtain⟨k,hkr,rfl,⟨vy,rfl,HO⟩,HS,HB,HZ,HF⟩:=hrel;have hzz:=HZ.out
       by_cases hlt3:k<rl
       ·have hkj:(k:Int)<(rl:Int):=by omega
        have hkj2:k<rl:=hlt3;obtain⟨b,off,A0,n0,c0,B1,m1,d1,B2,m2,d2,hAg,-,_,y0,y1,y2,⟨vs,q0,q1,q2,q3⟩,p1,r1,p2,r2⟩:=(HPW.out w2 (Below.refl _ _)).at hkj2;have HFB:=Frm.of_below HB.out;have x0:=HFB.cell' y0 id;have x1:=HFB.cell' y1 id;have x2:=HFB.cell' y2 id
        have hkrow:k<row.length:=by have:=HRLN.out;omega
        have HTJ:Hid (joinP acc (row.take (k+1))=addN (joinP acc (row.take k)) (row.getD k ([],[]))):=k7 hkrow;have HNS:=h_ (HRS.out _ (ak row ([],[]) hkrow));have HNU:=h_ (HUM.out _ (ak row ([],[]) hkrow));obtain⟨nx,hnx⟩:∃nx,nx=row.getD k ([],[]):=⟨_,rfl⟩;rw[<-hnx]at p1 p2 HTJ HNS HNU
        have HPE:Hid (∀(S':Nat->Prop) (W:World),(∀k,S' k->k<(((w.alloc (F #[.int D (P:Int),.int D c,.int D (h:Int),.int D s] 33)).alloc (F #[B A1 n1 c1,B A2 n2 c2] 35)).alloc (F #[.int D (ra:Int),.int D (rb:Int)] 37)).heap.size\/(∃k9,(Value.slice (some ⟨b9,o9,none⟩) nq c9).ownBlock=some k9/\k=k9)\/w2.heap.size<=k)->Below w2.heap.size w2 W->PEs S' W 4 [B A0 n0 c0,B B1 m1 d1,B B2 m2 d2] [nx]):=fun S' W hS hw=>by
         have hS2:∀k,S' k->wth (fun k=>k<(((w.alloc (F #[.int D (P:Int),.int D c,.int D (h:Int),.int D s] 33)).alloc (F #[B A1 n1 c1,B A2 n2 c2] 35)).alloc (F #[.int D (ra:Int),.int D (rb:Int)] 37)).heap.size) (B (some ⟨b9,o9,none⟩) nq c9) k\/w2.heap.size<=k:=fun k hk=>by
          rcases hS k hk with h|⟨k9,h,rfl⟩|h
          ·exact .inl (.inl h)
          ·exact .inl (.inr h)
          ·exact .inr h
         refine PEs.one (PE.frm (S:=S') ⟨⟨A0,n0,c0,vs,rfl,q0.set hS2,q1,q2,q3⟩,⟨B1,m1,d1,rfl,?_,r1⟩,⟨B2,m2,d2,rfl,?_,r2⟩⟩ (Frm.of_below' _ hw))
         ·exact p1.set hS2
         ·exact p2.set hS2
        have CK:Hid (∀W:World,Below w2.heap.size w2 W->Calls Tryz.prog 171 #[J #[B B1 m1 d1,B B2 m2 d2]] W fun e w'=>e=I (keyV nx)/\Below W.heap.size W w'):=fun W hw=>by
         have e1:nx.1.length=m1:=p1.1.1;have e2:nx.2.length=m2:=p2.1.1
         exact jb B1 B2 m1 d1 m2 d2 nx.1 nx.2 W (p1.1.below hw) (p2.1.below hw) (dA HNS.out.1 hC) (dA HNS.out.2 hC) (by have:=HNS.out.len1;omega) (by have:=HNS.out.len2;omega)
        subst hAg;clear y0 y1 y2 HFB q0 q1 q2 q3 p1 p2 r1 r2 hnx;have HBp:Hid (Below wr.heap.size wr (wr.alloc (F #[B A0 n0 c0,B B1 m1 d1,B B2 m2 d2] 85))):=(Below.refl _ _).alloc (Nat.le_refl _) _;have HCp:=h_ (Cel.new wr #[B A0 n0 c0,B B1 m1 d1,B B2 m2 d2] 85);have hzw2:w2.heap.size<=wr.heap.size:=HB.out.size
        go_wp2_with (fail)
        refine(CK.out _ (HB.out.trans (HBp.out.mono hzw2))).mono ?_
        rintro e w4 ⟨rfl,hb4⟩
        have hz4:wr.heap.size+1<=w4.heap.size:=by have:=hb4.size;simpa using this
        have HC4:=h_ (HCp.out.below hb4);have HB4:Hid (Below wr.heap.size wr w4):=HBp.out.trans (hb4.mono HBp.out.size);have HB24:Hid (Below w2.heap.size w2 w4):=HB.out.trans (HB4.out.mono hzw2);have HS4:=h_ (HS.out.below HB4.out);have HO4:=h_ (HO.out.below HB4.out);have HF4:=h_ (HF.out.below HB4.out);have HVY:=h_ HO.out.lt
        have hlk:=HS4.out.look (b:=nx) (by omega) HNS.out
        obtain⟨kv,hkv⟩:∃kv,kv=keyV nx:=⟨_,rfl⟩;have HKV:=h_ hkv;rw[<-hkv]at hlk ⊢;clear hb4 HBp HCp HS HO HF HB HB4 hkv x0 x1 x2
        by_cases hin2:nx∈joinP acc (row.take k)
        ·have HE:Hid (joinP acc (row.take (k+1))=joinP acc (row.take k)):=by unfold Hid;rw[HTJ.out,mK hin2]
         rw[show decide (nx∈joinP acc (row.take k))=true from decide_eq_true hin2]at hlk
         clear hin2
         go_wp2_with (fail)
         exact⟨⟨k+1,by omega,by go_num,⟨vy,rfl,by rw[HE.out];exact HO4.out⟩,by rw[HE.out];exact HS4.out,HB24,by unfold Hid;omega,HF4⟩,by simp[intOf];omega⟩
        ·have HE:Hid (joinP acc (row.take (k+1))=joinP acc (row.take k)++[nx]):=by unfold Hid;rw[HTJ.out,jw hin2]
         rw[show decide (nx∈joinP acc (row.take k))=false from decide_eq_false hin2]at hlk
         obtain⟨w5,hup,hs5,hg5⟩:=HS4.out.store (b:=nx) hC (by omega) HNS.out HNU.out HUL.out
         rw[<-HKV.out]at hup;have HS5:=h_ hs5;have hz5:w4.heap.size<=w5.heap.size:=hg5.size
         have HB25:Hid (Below w2.heap.size w2 w5):=HB24.out.grown hg5 (by omega) (fun x hx=>by injection hx with hx;omega)
         have HF45:Hid (Frm (fun k=>k=w2.heap.size) w4 w5):=(Frm.of_grown hg5).mono fun k hk=>by injection hk
         have HO5:Hid (OPl (fun k=>k<w.heap.size\/k=w2.heap.size) w5 4 (w2.heap.size+1) 85 vy (joinP acc (row.take k))):=HO4.out.frm (HF45.out.mono fun k hk=>.inr hk)
         have HC5:Hid (Cel w5 wr.heap.size [B A0 n0 c0,B B1 m1 d1,B B2 m2 d2]):=HC4.out.frmP HF45.out (by omega)
         have HF5:Hid (Fr w w5 [[.int D (P:Int),.int D c,.int D (h:Int),.int D s],[B A1 n1 c1,B A2 n2 c2],[.int D (ra:Int),.int D (rb:Int)]]):=HF4.out.frm HF45.out (fun k hk=>by omega) (fun k hk=>by simp;omega)
         have HKL:Hid ((joinP acc (row.take k)).length<=1200000):=by
          have h1:=cP (row.take k) acc
          have h2:(row.take k).length<=rl:=by rw[List.length_take];omega
          have h3:=Nat.le_trans HAL.out (Nat.mul_le_mul_right 390625 (show i<=2 by omega))
          have h4:2*390625=781250:=by decide
          rw[h4]at h3
          show(joinP acc (row.take k)).length<=1200000
          omega
         obtain⟨cs,hrow,hpe,hnb⟩:=HO5.out;have HROW:Hid ((w5.alloc (F #[B A0 n0 c0,B B1 m1 d1,B B2 m2 d2] 85)).ownsRow (w2.heap.size+1) 85 3 vy (joinP acc (row.take k)).length cs):=World.ownsRow.alloc hrow _
         have HPV:Hid (PEs (wth (fun k=>k<w.heap.size\/k=w2.heap.size) vy) (w5.alloc (F #[B A0 n0 c0,B B1 m1 d1,B B2 m2 d2] 85)) 4 cs (joinP acc (row.take k))):=hpe.frm ((Frm.refl _ _).alloc _)
         have HPN:Hid (PEs (wth (fun k=>k<w.heap.size\/k=w2.heap.size) vy) (w5.alloc (F #[B A0 n0 c0,B B1 m1 d1,B B2 m2 d2] 85)) 4 [B A0 n0 c0,B B1 m1 d1,B B2 m2 d2] [nx]):=HPE.out _ _ (fun k hk=>by
          rcases hk with hk|hk
          ·rcases hk with hk|hk
           ·exact .inl (by have hzs : (((w.alloc (F #[.int D (P : Int), .int D c, .int D (h : Int), .int D s] 33)).alloc (F #[B A1 n1 c1, B A2 n2 c2] 35)).alloc (F #[.int D (ra : Int), .int D (rb : Int)] 37)).heap.size = w.heap.size + 3 := by simp
                           omega)
           ·exact .inr (.inr (by omega))
          ·exact .inr (.inr (by have:=(HVY.out k hk).1;omega))) (HB25.out.alloc (by omega) _)
         have HNB:=h_ hnb
         have HNW:Hid (∀j u,[B A0 n0 c0,B B1 m1 d1,B B2 m2 d2][j]? =some u->(w5.alloc (F #[B A0 n0 c0,B B1 m1 d1,B B2 m2 d2] 85)).cell? ((⟨w5.heap.size,0,none⟩:Addr).add j)=some u):=fun j u hj=>by
          have h9:=(Cel.new w5 #[B A0 n0 c0,B B1 m1 d1,B B2 m2 d2] 85).cell j u hj;unfold Addr.add
          split
          ·rename_i h0;rw[h0]at h9;exact h9
          ·rw[Nat.zero_add];exact h9
         have x0:=HC5.out.cell 0 _ rfl;have x1:=HC5.out.cell 1 _ rfl;have x2:=HC5.out.cell 2 _ rfl;have xz:=HC5.out.lt;clear hin2 hs5 hg5 HS4 HO4 HF4 hrow hpe hnb HPE HC4 HC5 HB24 HO5
         go_wp2_with (at_builtin;(refine wpList_append_own_at _ rfl _ _ 79 rfl (w2.heap.size+1) 85 j0 (J #[B none 0 0,B none 0 0,B none 0 0]) 3 72 Tryz.underlying79 hj jz0 jz1 jz2 rfl (by decide) _ _ _ rfl HROW.out ⟨w5.heap.size,0,none⟩ 1 1 [B A0 n0 c0,B B1 m1 d1,B B2 m2 d2] rfl rfl HNW.out (fun u hu=>by simp at hu;rcases hu with rfl|rfl|rfl<;>rfl) (by have:=HKL.out;unfold maxLen;omega) (by have:=HKL.out;omega) (by simp;omega) ?_);intro v' w6 hown hgrow _ hat)
         have hzA:(w5.alloc (F #[B A0 n0 c0,B B1 m1 d1,B B2 m2 d2] 85)).heap.size=w5.heap.size+1:=by simp
         have HO6:Hid (OPl (fun k=>k<w.heap.size\/k=w2.heap.size) w6 4 (w2.heap.size+1) 85 v' (joinP acc (row.take (k+1)))):=by
          unfold Hid;rw[HE.out]
          refine OPl.grew2 HPV.out HPN.out hown rfl hgrow hat HNB.out (fun h9=>?_)
          rw[hzA]at h9
          rcases h9 with h9|h9<;>omega
         have hbA:Below w5.heap.size w5 (w5.alloc (F #[B A0 n0 c0,B B1 m1 d1,B B2 m2 d2] 85)):=(Below.refl _ _).alloc (Nat.le_refl _) _
         have HS6:Hid (SeenM w6 w2.heap.size (Q.flatMap (·.1)) P C (joinP acc (row.take (k+1)))):=by
          unfold Hid;rw[HE.out]
          exact(HS5.out.below hbA).frm (Frm.of_grown hgrow) (fun h9=>by have:=(HVY.out _ h9.symm).1;omega)
         have HB6:Hid (Below w2.heap.size w2 w6):=(HB25.out.alloc (by omega) _).grown hgrow (by omega) (fun x hx=>by have:=(HVY.out x hx).1;omega)
         have HF6:Hid (Fr w w6 [[.int D (P:Int),.int D c,.int D (h:Int),.int D s],[B A1 n1 c1,B A2 n2 c2],[.int D (ra:Int),.int D (rb:Int)]]):=(HF5.out.alloc _).frm (Frm.of_grown hgrow) (fun k hk=>by have:=(HVY.out k hk.symm).1;omega) (fun k hk=>by have:=(HVY.out k hk.symm).1;simp;omega)
         have hz6:=hgrow.size
         have HZ6:Hid (w2.heap.size+1<=w6.heap.size):=by unfold Hid;omega
         clear hown hgrow hat HNW HNB HPN HPV HROW hzA hbA hz6
         exact⟨⟨k+1,by omega,by go_num,⟨v',rfl,HO6⟩,HS6,HB6,HZ6,HF6⟩,by simp[intOf];omega⟩
       ·have hkj:¬(k:Int)<(rl:Int):=by omega
        have HTE:Hid (joinP acc (row.take k)=joinP acc row):=by
         unfold Hid
         rw[List.take_of_length_le (by have:=HRLN.out;omega)]
        by_cases h1N:N=1
        ·have b1:((N:Int) == 1)=true:=by simp[h1N]
         have HRE:Hid (RetAp w 4 PL true (I (.tuple #[vy,.bool true])) wr):=by
          have h9:=HPR2.out;rw[if_pos h1N,<-HTE.out]at h9;obtain⟨A8,c8,hv8,hp8,hc8⟩:=HO.out.read;rw[h9]
          exact⟨fun _=>⟨A8,c8,by rw[hv8],hp8.set fun k hk=>.inl (.inl hk),hc8⟩,fun h=>(by cases h),HF.out.b⟩
         clear HO HS HPR2 h1N HTE
         go_wp2_with (fail)
         go_ret2
         exact HRE.out
        ·have b1:((N:Int) == 1)=false:=by simp;omega
         have HPR3:Hid (PL=allQ N (Q.drop (i+1)) (joinP acc row)):=by have h9:=HPR2.out;rw[if_neg h1N]at h9;exact h9
         have HAL2:Hid ((joinP acc row).length<=(i+1)*390625):=by
          refine Nat.le_trans (cP row acc) ?_
          rw[Nat.add_mul,Nat.one_mul]
          exact Nat.add_le_add HAL.out HRL.out
         have HO7:=HO;rw[HTE.out]at HO7;have HS7:=HS;rw[HTE.out]at HS7;clear HO HS HPR2 h1N HTE
         go_wp2_with (fail)
         exact⟨⟨i+1,joinP acc row,by omega,by go_num,⟨vy,rfl,HO7⟩,HS7,HAL2,HPR3,HB,HZ,HF⟩,by simp[intOf];omega⟩
    ·have hki:¬(i:Int)<(nq:Int):=by omega
     have HRE:Hid (RetAp w 4 PL true (I (.tuple #[vx,.bool true])) wr):=by
      have h9:=HPR.out
      rw[List.drop_of_length_le (by have:=HNQ.out;omega)]at h9
      obtain⟨A8,c8,hv8,hp8,hc8⟩:=HO.out.read;rw[h9]
      show RetAp w 4 acc true _ _
      exact⟨fun _=>⟨A8,c8,by rw[hv8],hp8.set fun k hk=>.inl (.inl hk),hc8⟩,fun h=>(by cases h),HF.out.b⟩
     clear HO HS HPR
     go_wp2_with (fail)
     go_ret2
     exact HRE.out
theorem ig(S:Nat->Prop)(a b:Nat)(w:World)(hS:∀k,w.heap.size<=k->¬S k):
  Calls Tryz.prog 189 #[J #[.int D a,.int D b]] w (RetL S w (castD (dice a b))):=by
 have HSS:=h_ hS;clear hS
 by_cases hab:a=b
 ·subst hab
  have HB1:Hid (Below w.heap.size w (w.alloc (F #[.int D a,.int D a] 37))):=(Below.refl _ _).alloc (Nat.le_refl _) _
  have HO:=h_ (OwnS.made (w.alloc (F #[.int D a,.int D a] 37)) (base:=w.heap.size) 2 [(a:Int),a,a,a] #[.int D a,.int D a,.int D a,.int D a] (n:=4) rfl rfl HB1.out.size (by unfold maxLen;omega))
  have HB2:=h_ (HB1.out.alloc HB1.out.size (F #[.int D a,.int D a,.int D a,.int D a] 2));have HP:=h_ (OP.one (S:=S) HB2.out HSS.out (PV.own HO.out HSS.out));have HB3:=h_ (HB2.out.alloc HB2.out.size (F #[B (some ⟨(w.alloc (F #[.int D a,.int D a] 37)).heap.size,0,none⟩) 4 4] 24))
  go_enter Tryz.func189,Tryz.ntmps189
  go_wp2
  go_ret
  have e:castD (dice a a)=[[(a:Int),a,a,a]]:=by rw[gt];rfl
  rw[e]
  refine⟨w.heap.size+1+1,0,1,1,rfl,?_,by omega,?_⟩
  ·have h:=HP.out;simpa using h
  ·have h:=HB3.out;simpa using h
 ·have b0:((a:Int) == (b:Int))=false:=by simp;omega
  have HB1:Hid (Below w.heap.size w (w.alloc (F #[.int D a,.int D b] 37))):=(Below.refl _ _).alloc (Nat.le_refl _) _
  have HO1:=h_ (OwnS.made (w.alloc (F #[.int D a,.int D b] 37)) (base:=w.heap.size) 2 [(a:Int),b] #[.int D a,.int D b] (n:=2) rfl rfl HB1.out.size (by unfold maxLen;omega))
  have HB2:=h_ (HB1.out.alloc HB1.out.size (F #[.int D a,.int D b] 2))
  have HO2:=h_ (OwnS.made ((w.alloc (F #[.int D a,.int D b] 37)).alloc (F #[.int D a,.int D b] 2)) (base:=w.heap.size) 2 [(b:Int),a] #[.int D b,.int D a] (n:=2) rfl rfl HB2.out.size (by unfold maxLen;omega))
  have HO3:=h_ (HO1.out.alloc' (F #[.int D b,.int D a] 2));have HB3:=h_ (HB2.out.alloc HB2.out.size (F #[.int D b,.int D a] 2))
  have HP:=h_ (OP.made (S:=S) (e:=24) _ HB3.out.size HSS.out ((PVs.one (PV.own HO3.out HSS.out)).snoc (PV.own HO2.out HSS.out)) (by unfold maxLen;simp))
  have HB4:=h_ (HB3.out.alloc HB3.out.size (F #[B (some ⟨(w.alloc (F #[.int D a,.int D b] 37)).heap.size,0,none⟩) 2 2,B (some ⟨((w.alloc (F #[.int D a,.int D b] 37)).alloc (F #[.int D a,.int D b] 2)).heap.size,0,none⟩) 2 2] 24))
  go_enter Tryz.func189,Tryz.ntmps189
  go_wp2
  go_ret
  have e:castD (dice a b)=[[(a:Int),b],[(b:Int),a]]:=by rw[fg hab];rfl
  rw[e];obtain⟨A,c,hv,hpl,_⟩:=HP.out.read;injection hv with h1 h2 h3;subst h1
  refine⟨w.heap.size+1+1+1,0,2,2,rfl,?_,by omega,?_⟩
  ·simpa using hpl
  ·have h:=HB4.out;simpa using h
theorem jY:∀{l k:List Int},l.length=k.length->(∀j,j<l.length->l.getD j 0=k.getD j 0)->l=k
 | [],[],_,_=>rfl
 | [],y::k,h,_=>by simp at h
 |x::l,[],h,_=>by simp at h
 |x::l,y::k,h,he=>by
   have h0:=he 0 (by simp)
   rw [List.getD_cons_zero,List.getD_cons_zero]at h0
   have e:=jY (l:=l) (k:=k) (by simpa using h) (fun j hj=>by
     have:=he (j+1) (by simp;omega)
     rwa [List.getD_cons_succ,List.getD_cons_succ]at this)
   rw [h0,e]
theorem l05Same_any(A1 A2 B1 B2:Option Addr)(n1 c1 n2 c2 d1 d2:Nat)(o1 t1 o2 t2:List Int)(w:World)(ha1:SL w A1 n1 o1)(ha2:SL w A2 n2 t1)(hb1:SL w B1 n1 o2)(hb2:SL w B2 n2 t2)(hn1:n1<=1000)(hn2:n2<=1000):
  Calls Tryz.prog 213 #[J #[B A1 n1 c1,B A2 n2 c2],J #[B B1 n1 d1,B B2 n2 d2]] w fun e w'=>e=I (.bool (decide ((o1,t1)=(o2,t2))))/\Below w.heap.size w w':=by
 have HA1:=h_ fun(W:World) (hw:Below w.heap.size w W)=>ha1.below hw
 have HA2:=h_ fun(W:World) (hw:Below w.heap.size w W)=>ha2.below hw
 have HB1:=h_ fun(W:World) (hw:Below w.heap.size w W)=>hb1.below hw
 have HB2:=h_ fun(W:World) (hw:Below w.heap.size w W)=>hb2.below hw
 have HR1:Hid (∀i,o1.getD i 0≠o2.getD i 0->decide ((o1,t1)=(o2,t2))=false):=fun i h=>decide_eq_false (fun e=>h (by rw[(Prod.mk.inj e).1]))
 have HR2:Hid (∀i,t1.getD i 0≠t2.getD i 0->decide ((o1,t1)=(o2,t2))=false):=fun i h=>decide_eq_false (fun e=>h (by rw[(Prod.mk.inj e).2]))
 have HRT:Hid ((∀j,j<n1->o1.getD j 0=o2.getD j 0)->(∀j,j<n2->t1.getD j 0=t2.getD j 0)->decide ((o1,t1)=(o2,t2))=true):=fun h1 h2=>by
  have e1:=jY (l:=o1) (k:=o2) (by rw[ha1.1,hb1.1]) (by rw[ha1.1];exact h1)
  have e2:=jY (l:=t1) (k:=t2) (by rw[ha2.1,hb2.1]) (by rw[ha2.1];exact h2)
  exact decide_eq_true (by rw[e1,e2])
 have HF:Hid (Fr w ((w.alloc (F #[B A1 n1 c1,B A2 n2 c2] 35)).alloc (F #[B B1 n1 d1,B B2 n2 d2] 35)) [[B A1 n1 c1,B A2 n2 c2],[B B1 n1 d1,B B2 n2 d2]]):=((Fr.start w).allocT (by simp) _ _).allocT (by simp) _ _
 generalize decide ((o1,t1)=(o2,t2))=R at *;clear ha1 ha2 hb1 hb2
 go_enter Tryz.func213,Tryz.ntmps213
 go_wp2_with (fail)
 go_loopw [5] (fun v5 wr=>∃(i:Nat),i<=n1/\v5= .int D i/\Hid (∀j,j<i->o1.getD j 0=o2.getD j 0)/\Hid (Fr w wr [[B A1 n1 c1,B A2 n2 c2],[B B1 n1 d1,B B2 n2 d2]])) (fun v5 _=>n1-(intOf v5).toNat)
 case atStart=>exact⟨0,by omega,rfl,fun j hj=>absurd hj (by omega),HF.out⟩
 case round=>
  clear HF;obtain⟨i,hin,rfl,HE,HF⟩:=hrel
  by_cases hlt:i<n1
  ·have hji:(i:Int)<(n1:Int):=by omega
   obtain⟨ba,oa,rfl,hba,hca⟩:=(HA1.out wr HF.out.b).2 (by omega)
   obtain⟨bb,ob,rfl,hbb,hcb⟩:=(HB1.out wr HF.out.b).2 (by omega)
   have y0:=hca i hlt;have y1:=hcb i hlt;have HNE:Hid (o1.getD i 0≠o2.getD i 0->R=false):=HR1.out i
   have HE2:Hid (o1.getD i 0=o2.getD i 0->∀j,j<i+1->o1.getD j 0=o2.getD j 0):=fun h j hj=>by
    by_cases e:j=i
    ·rw[e];exact h
    ·exact HE.out j (by omega)
   generalize o1.getD i 0=x at *;generalize o2.getD i 0=y at *;clear hca hcb HE;have c00:=HF.out.c0 0 rfl;have c10:=HF.out.c1 0 rfl
   by_cases hxy:x=y
   ·have b0:(x != y)=false:=by simp[hxy]
    have HE3:=h_ (HE2.out hxy);have HF9:Hid (Fr w wr.drew [[B (some ⟨ba,oa,none⟩) n1 c1,B A2 n2 c2],[B (some ⟨bb,ob,none⟩) n1 d1,B B2 n2 d2]]):=HF.out.drew;clear hxy HE2 HNE HF
    go_wp2_with (fail)
    go_region
    go_wp2_with (fail)
    exact⟨⟨i+1,by omega,by go_num,HE3,HF9⟩,by simp[intOf];omega⟩
   ·have b0:(x != y)=true:=by simp[hxy]
    have HRF:=h_ (HNE.out hxy);clear hxy HE2 HNE
    go_wp2_with (fail)
    go_region
    go_wp2_with (fail)
    go_ret
    exact⟨by rw[HRF.out];rfl,drw HF.out.b⟩
  ·have hji:¬(i:Int)<(n1:Int):=by omega
   have HE1:Hid (∀j,j<n1->o1.getD j 0=o2.getD j 0):=fun j hj=>HE.out j (by omega)
   clear HE;have c00:=HF.out.c0 0 rfl
   go_wp2_with (fail)
   clear c00;obtain⟨wa,rfl⟩:∃wa:World,wa=wr:=⟨_,rfl⟩
   go_loopw [6] (fun v6 wr=>∃(i:Nat),i<=n2/\v6= .int D i/\Hid (∀j,j<i->t1.getD j 0=t2.getD j 0)/\Hid (Fr w wr [[B A1 n1 c1,B A2 n2 c2],[B B1 n1 d1,B B2 n2 d2]])) (fun v6 _=>n2-(intOf v6).toNat)
   case atStart=>exact⟨0,by omega,rfl,fun j hj=>absurd hj (by omega),HF.out⟩
   case round=>
    clear HF;obtain⟨i,hin,rfl,HE,HF⟩:=hrel
    by_cases hlt:i<n2
    ·have hji:(i:Int)<(n2:Int):=by omega
     obtain⟨ba,oa,rfl,hba,hca⟩:=(HA2.out wr HF.out.b).2 (by omega)
     obtain⟨bb,ob,rfl,hbb,hcb⟩:=(HB2.out wr HF.out.b).2 (by omega)
     have y0:=hca i hlt;have y1:=hcb i hlt;have HNE:Hid (t1.getD i 0≠t2.getD i 0->R=false):=HR2.out i
     have HE2:Hid (t1.getD i 0=t2.getD i 0->∀j,j<i+1->t1.getD j 0=t2.getD j 0):=fun h j hj=>by
      by_cases e:j=i
      ·rw[e];exact h
      ·exact HE.out j (by omega)
     generalize t1.getD i 0=x at *;generalize t2.getD i 0=y at *;clear hca hcb HE;have c01:=HF.out.c0 1 rfl;have c11:=HF.out.c1 1 rfl
     by_cases hxy:x=y
     ·have b0:(x != y)=false:=by simp[hxy]
      have HE3:=h_ (HE2.out hxy);have HF9:Hid (Fr w wr.drew [[B A1 n1 c1,B (some ⟨ba,oa,none⟩) n2 c2],[B B1 n1 d1,B (some ⟨bb,ob,none⟩) n2 d2]]):=HF.out.drew;clear hxy HE2 HNE HF
      go_wp2_with (fail)
      go_region
      go_wp2_with (fail)
      exact⟨⟨i+1,by omega,by go_num,HE3,HF9⟩,by simp[intOf];omega⟩
     ·have b0:(x != y)=true:=by simp[hxy]
      have HRF:=h_ (HNE.out hxy);clear hxy HE2 HNE
      go_wp2_with (fail)
      go_region
      go_wp2_with (fail)
      go_ret
      exact⟨by rw[HRF.out];rfl,drw HF.out.b⟩
    ·have hji2:¬(i:Int)<(n2:Int):=by omega
     have HRE:=h_ (HRT.out HE1.out (fun j hj=>HE.out j (by omega)))
     clear HE;have c01:=HF.out.c0 1 rfl
     go_wp2_with (fail)
     go_ret
     exact⟨by rw[HRE.out];rfl,HF.out.b⟩
def dsFi:Nat->Nat
 | 0=>12
 | 1=>13
 | 2=>14
 | 3=>15
 | 4=>16
 | 5=>17
 |_=>0
theorem mem_takeB{bs:List Bd}{i:Nat}{x:Bd}(hi:i<bs.length):x∈bs.take (i+1)↔x∈bs.take i\/x=bs.getD i ([],[]):=by
 rw[bP ([],[]) hi,List.mem_append,List.mem_singleton]
def RetFi(w:World)(bs:List Bd)(x:Bd)(e:Ending)(w':World):Prop:=∃r:Int,e=I (.int D r)/\-1<=r/\r<=10000000/\(r<0↔¬x∈bs)/\Below w.heap.size w w'
theorem j6(S:Nat->Prop)(m:Nat)(A A1 A2:Option Addr)(n cp n1 c1 n2 c2:Nat)(bs:List Bd)(own other:List Int)(w:World)(hx:PLs S w m A n bs)(ha1:SL w A1 n1 own)(ha2:SL w A2 n2 other)(hbs:∀b∈bs,b.1.length=n1/\b.2.length=n2)(hn1:n1<=1000)(hn2:n2<=1000)(hn:n<=10000000):
  Calls Tryz.prog 191 #[B A n cp,J #[B A1 n1 c1,B A2 n2 c2]] w (RetFi w bs (own,other)):=by
 have HX:=h_ hx;have HLN:=h_ hx.len
 have HA1:=h_ fun(W:World) (hw:Below w.heap.size w W)=>ha1.below hw
 have HA2:=h_ fun(W:World) (hw:Below w.heap.size w W)=>ha2.below hw
 have HBS:Hid (∀i,i<n->(bs.getD i ([],[])).1.length=n1/\(bs.getD i ([],[])).2.length=n2):=fun i hi=>hbs _ (ak bs _ (by rw[hx.len];exact hi))
 have HF:Hid (Fr w (w.alloc (F #[B A1 n1 c1,B A2 n2 c2] 35)) [[B A1 n1 c1,B A2 n2 c2]]):=(Fr.start w).allocT (by simp) _ _
 clear hx ha1 ha2 hbs
 go_enter Tryz.func191,Tryz.ntmps191
 go_wp2_with (fail)
 go_loopw [5] (fun v5 wr=>∃(q:Nat),q<=n/\v5= .int D q/\Hid (¬(own,other)∈bs.take q)/\Hid (Fr w wr [[B A1 n1 c1,B A2 n2 c2]])) (fun v5 _=>n-(intOf v5).toNat)
 case atStart=>exact⟨0,by omega,rfl,by simp[Hid],HF.out⟩
 case round=>
  clear HF;obtain⟨q,hin,rfl,HE,HF⟩:=hrel
  by_cases hlt:q<n
  ·have hji:(q:Int)<(n:Int):=by omega
   obtain⟨b,off,_,_,_,B1,m1,kB1,B2,m2,kB2,rfl,hbl,_,_,y1,y2,_,p1,_,p2,_⟩:=HX.out.at hlt;have HFB:=Frm.of_below HF.out.b;have HY1:=h_ (HFB.cell' y1 id);have HY2:=h_ (HFB.cell' y2 id);have hm:=HBS.out q hlt
   have HMT:Hid ((own,other)∈bs.take (q+1)↔(own,other)∈bs.take q\/(own,other)=bs.getD q ([],[])):=mem_takeB (by rw[HLN.out];exact hlt)
   have HMM:Hid (bs.getD q ([],[])∈bs):=ak bs _ (by rw[HLN.out];exact hlt)
   obtain⟨⟨o2,t2⟩,hbb⟩:∃bb,bb=bs.getD q ([],[]):=⟨_,rfl⟩;rw[<-hbb]at p1 p2 hm HMT HMM
   have e1:n1=m1:=by rw[<-p1.1.1];exact hm.1.symm
   have e2:n2=m2:=by rw[<-p2.1.1];exact hm.2.symm
   subst e1 e2
   have CS:Hid (∀W:World,Below w.heap.size w W->Calls Tryz.prog 213 #[J #[B B1 n1 kB1,B B2 n2 kB2],J #[B A1 n1 c1,B A2 n2 c2]] W fun e w'=>e=I (.bool (decide ((o2,t2)=(own,other))))/\Below W.heap.size W w'):=fun W hw=>l05Same_any B1 B2 A1 A2 n1 kB1 n2 kB2 c1 c2 o2 t2 own other W (p1.1.below hw) (p2.1.below hw) (HA1.out W hw) (HA2.out W hw) hn1 hn2
   clear y1 y2 HFB p1 p2 hm hbb
   go_wp2_with (fail)
   refine w_ 6 (fun _=>false) dsFi [Eqv (B (some ⟨b,off,none⟩) n cp),Eqv (.int D (q:Int)),Eqv (.pointer (some ⟨b,off+q*3,none⟩)),Eqv (.pointer (some ⟨b,off+q*3+1,none⟩)),Eqv (J #[B B1 n1 kB1,B B2 n2 kB2]),Eqv (J #[B A1 n1 c1,B A2 n2 c2])] (by repeat (first|exact AllStb.nil|refine AllStb.cons (by first|exact aY _|exact bi _ _ _) ?_)) (fun i o' _ hX=>by cases hX) ?_ ?_
   ·intro i o hi hX ho a' W hW hIW hfar hdep
    have e0:a'.tmps.getD 0 undef=(B (some ⟨b,off,none⟩) n cp):=(fr hfar 0).trans rfl
    have e3:a'.tmps.getD 3 undef=(.pointer (some ⟨w.heap.size,0,none⟩)):=(fr hfar 3).trans rfl
    have e5:a'.tmps.getD 5 undef=(.int D (q:Int)):=(fr hfar 5).trans rfl
    have hi8:=i_5 hi
    clear hfar hX hi
    rcases hi8 with rfl|rfl|rfl|rfl|rfl|rfl
    all_goals (simp at ho;subst ho)
    ·refine il ?_;simp only[execOp,Act.eval,e0];go_simp
    ·refine il ?_;simp only[execOp,Act.eval,e5];go_simp
    ·have d1:a'.tmps.getD 12 undef=_:=dp hdep 0
     have d2:a'.tmps.getD 13 undef=_:=dp hdep 1
     refine il ?_;simp only[execOp,Act.eval,d1,d2];go_simp;first|done|(intro hq9;exfalso;omega)
    ·have d1:a'.tmps.getD 14 undef=_:=dp hdep 2
     refine il ?_;simp only[execOp,Act.eval,d1];go_simp
    ·have d1:a'.tmps.getD 15 undef=_:=dp hdep 3
     have y0:=(Frm.of_below hW).cell' HY1.out id;have y1:=(Frm.of_below hW).cell' HY2.out id
     refine il ?_;simp only[execOp,Act.eval,d1];go_simp
    ·have y0:=(HF.out.below hW).c0 0 rfl
     have y1:=(HF.out.below hW).c0 1 rfl
     refine il ?_;simp only[execOp,Act.eval,e3];go_simp
   intro v W2 hW hIW hg
   have g0:v 0=_:=gq hg 0
   have g1:v 1=_:=gq hg 1
   have g2:v 2=_:=gq hg 2
   have g3:v 3=_:=gq hg 3
   have g4:v 4=_:=gq hg 4
   have g5:v 5=_:=gq hg 5
   simp only[List.drop_succ_cons,List.drop_zero,putV,dsFi,g0,g1,g2,g3,g4,g5,Act.put]
   clear g0 g1 g2 g3 g4 g5 hg hIW;have HF2:=h_ (HF.out.below hW);clear hW HF
   go_wp2_with (fail)
   refine(CS.out _ HF2.out.b).mono ?_
   rintro e w3 ⟨rfl,hb3⟩
   have HF3:=h_ (HF2.out.below hb3);clear hb3 HF2 CS
   by_cases hq:(o2,t2)=(own,other)
   ·have HQ:Hid ((own,other)∈bs):=by unfold Hid;rw[<- hq];exact HMM.out
    rw[decide_eq_true hq];clear hq HE HMT
    go_wp2_with (fail)
    go_ret
    exact⟨(q:Int),rfl,by omega,by omega,⟨fun h=>absurd h (by omega),fun h=>absurd HQ.out h⟩,HF3.out.b⟩
   ·have HE2:Hid (¬(own,other)∈bs.take (q+1)):=fun h=>(HMT.out.1 h).elim HE.out (fun h=>hq h.symm)
    rw[decide_eq_false hq];clear hq HE HMT
    go_wp2_with (fail)
    exact⟨⟨q+1,by omega,by go_num,HE2,HF3⟩,by simp[intOf];omega⟩
  ·have hji:¬(q:Int)<(n:Int):=by omega
   have HE2:Hid (¬(own,other)∈bs):=by
    have h:=HE.out
    rw[List.take_of_length_le (by rw[HLN.out];omega)]at h
    exact h
   clear HE
   go_wp2_with (fail)
   go_ret
   exact⟨-1,rfl,by omega,by omega,⟨fun _=>HE2.out,fun _=>by omega⟩,HF.out.b⟩
def appH(o l i p q s t k r st bd:Value):Nat->Option Value
 | 0=>some o
 | 2=>some l
 | 3=>some i
 | 4=>some p
 | 5=>some q
 | 6=>some s
 | 8=>some t
 | 9=>some k
 | 10=>some r
 | 11=>some st
 | 14=>some bd
 |_=>none
structure JH(V:World)(T:TypeId)(c:Nat->Option Value)(vs st:List Value)(n0:Nat)(L:Nat->Bool)(u:Nat->Value)(W:World):Prop where
 b:Below V.heap.size V W
 k:∀i,i<17->L i=true->∀y,c i=some y->u i=y
 w7:L 7=true->L 1=true
 w10:L 13=true->L 7=true/\L 12=true
 r4:L 1=true->L 7=false->W.ownsRow V.heap.size T 4 (u 1) 0 []
 r7:L 7=true->L 13=false->W.ownsRow V.heap.size T 4 (u 7) n0 vs
 r10:L 13=true->W.ownsRow V.heap.size T 4 (u 13) (n0+1) (vs++st)
 s9:L 12=true->L 13=false->∃g,u 12=B (some ⟨g,0,none⟩) 1 1/\V.heap.size<=g/\g<W.heap.size/\(∀i,i<st.length->W.cell? ⟨g,0+i,none⟩=some (st.getD i undef))/\(L 1=true->L 7=false->(u 1).ownBlock≠some g)/\(L 7=true->(u 7).ownBlock≠some g)
section
variable {V W W':World}{T:TypeId}{c:Nat->Option Value}{vs st:List Value}{n0 i:Nat}{L L':Nat->Bool}{u u':Nat->Value}{v:Value}
theorem JH.start(V:World)(T:TypeId)(c:Nat->Option Value)(vs st:List Value)(n0:Nat)(u:Nat->Value):JH V T c vs st n0 (fun _=>false) u V.drew:=
 ⟨Below.drew (Below.refl _ _),fun _ _ h=>(by cases h),fun h=>(by cases h),fun h=>(by cases h),fun h=>(by cases h),fun h=>(by cases h),fun h=>(by cases h),fun h=>(by cases h)⟩
theorem JH.pure(H:JH V T c vs st n0 L u W)(hu:Upd 17 i v L u L' u')(h1:i≠1/\i≠7/\i≠12/\i≠13)(hv:∀y,c i=some y->v=y):JH V T c vs st n0 L' u' W:=by
 obtain⟨a1,a2,a3⟩:=hu
 obtain⟨l4,u4⟩:=a3 1 (by omega) (by omega)
 obtain⟨l7,u7⟩:=a3 7 (by omega) (by omega)
 obtain⟨l9,u9⟩:=a3 12 (by omega) (by omega)
 obtain⟨l10,u10⟩:=a3 13 (by omega) (by omega)
 refine⟨H.b,fun j hj hl y hy=>?_,(by rw[l4,l7];exact H.w7),(by rw[l7,l9,l10];exact H.w10),(by rw[l4,l7,u4];exact H.r4),(by rw[l7,l10,u7];exact H.r7),(by rw[l10,u10];exact H.r10),(by rw[l9,l10,l4,l7,u4,u7,u9];exact H.s9)⟩
 by_cases e:j=i
 ·subst e;rw[a2];exact hv y hy
 ·obtain⟨lj,uj⟩:=a3 j hj e
  rw[uj];rw[lj]at hl;exact H.k j hj hl y hy
theorem JH.no10(H:JH V T c vs st n0 L u W)(h:L 7=false\/L 12=false):L 13=false:=by
 rcases h9:L 13 with _|_
 ·rfl
 ·have:=H.w10 h9
  rcases h with h|h
  ·rw[h]at this;cases this.1
  ·rw[h]at this;cases this.2
theorem JH.no7(H:JH V T c vs st n0 L u W)(h:L 1=false):L 7=false:=by
 rcases h9:L 7 with _|_
 ·rfl
 ·have:=H.w7 h9;rw[h]at this;cases this
theorem JH.keep(H:JH V T c vs st n0 L u W)(hu:Upd 17 i v L u L' u')(hc:c i=none):∀j,j<17->L' j=true->∀y,c j=some y->u' j=y:=fun j hj hl y hy=>by
 by_cases e:j=i
 ·subst e;rw[hc]at hy;cases hy
 ·obtain⟨lj,uj⟩:=hu.2.2 j hj e
  rw[uj];rw[lj]at hl;exact H.k j hj hl y hy
theorem JH.make(H:JH V T c vs st n0 L u W)(hu:Upd 17 1 v L u L' u')(h4:L 1=false)(hc:c 1=none)(ho:W'.ownsRow V.heap.size T 4 v 0 [])(hg:W.grownBy W' none)(hv:v.ownBlock=some W.heap.size):JH V T c vs st n0 L' u' W':=by
 have h7:=H.no7 h4;have h10:=H.no10 (.inl h7)
 obtain⟨l7,-⟩:=hu.2.2 7 (by omega) (by omega)
 obtain⟨l9,u9⟩:=hu.2.2 12 (by omega) (by omega)
 obtain⟨l10,-⟩:=hu.2.2 13 (by omega) (by omega)
 refine⟨H.b.grown hg H.b.size (fun x hx=>by cases hx),H.keep hu hc,fun _=>hu.1,fun h=>(by rw[l10,h10]at h;cases h),fun _ _=>(by rw[hu.2.1];exact ho),fun h=>(by rw[l7,h7]at h;cases h),fun h=>(by rw[l10,h10]at h;cases h),fun h _=>?_⟩
 rw[l9]at h;obtain⟨g,q1,q2,q3,q4,_,_⟩:=H.s9 h h10
 refine⟨g,(by rw[u9];exact q1),q2,Nat.lt_of_lt_of_le q3 hg.size,fun i hi=>hg.cell (q4 i hi) (by simp),fun _ _=>?_,fun h=>(by rw[l7,h7]at h;cases h)⟩
 rw[hu.2.1,hv]
 intro e;injection e with e;omega
theorem JH.bsl(H:JH V T c vs st n0 L u W)(hu:Upd 17 12 (B (some ⟨W.heap.size,0,none⟩) 1 1) L u L' u')(h9:L 12=false)(hc:c 12=none)(T':TypeId):JH V T c vs st n0 L' u' (W.alloc (F st.toArray T')):=by
 have h10:=H.no10 (.inr h9)
 obtain⟨l4,u4⟩:=hu.2.2 1 (by omega) (by omega)
 obtain⟨l7,u7⟩:=hu.2.2 7 (by omega) (by omega)
 obtain⟨l10,-⟩:=hu.2.2 13 (by omega) (by omega)
 refine⟨H.b.alloc H.b.size _,H.keep hu hc,(by rw[l4,l7];exact H.w7),fun h=>(by rw[l10,h10]at h;cases h),fun h h'=>?_,fun h h'=>?_,fun h=>(by rw[l10,h10]at h;cases h),fun _ _=>?_⟩
 ·rw[l4]at h;rw[l7]at h';rw[u4];exact(H.r4 h h').alloc _
 ·rw[l7]at h;rw[u7];exact(H.r7 h h10).alloc _
 ·refine⟨W.heap.size,hu.2.1,H.b.size,by simp,fun i hi=>?_,fun h h' e=>?_,fun h e=>?_⟩
  ·rw[Nat.zero_add]
   exact(Cel.new W st.toArray T').cell i _ (by simp[List.getD,hi])
  ·rw[l4]at h;rw[l7]at h';rw[u4]at e
   have:=(World.ownsRow.lt (H.r4 h h') _ e).2
   omega
  ·rw[l7]at h;rw[u7]at e
   have:=(World.ownsRow.lt (H.r7 h h10) _ e).2
   omega
theorem JH.app1(H:JH V T c vs st n0 L u W)(hu:Upd 17 7 v L u L' u')(h7:L 7=false)(h4:L 1=true)(hc:c 7=none)(ho:W'.ownsRow V.heap.size T 4 v n0 vs)(hg:W.grownBy W' (u 1).ownBlock)(hat:v.ownBlock=(u 1).ownBlock\/v.ownBlock=some W.heap.size):JH V T c vs st n0 L' u' W':=by
 have h10:=H.no10 (.inl h7);have hr:=H.r4 h4 h7
 obtain⟨l4,-⟩:=hu.2.2 1 (by omega) (by omega)
 obtain⟨l9,u9⟩:=hu.2.2 12 (by omega) (by omega)
 obtain⟨l10,-⟩:=hu.2.2 13 (by omega) (by omega)
 refine⟨H.b.grown hg H.b.size (fun x hx=>(World.ownsRow.lt hr x hx).1),H.keep hu hc,fun _=>(by rw[l4];exact h4),fun h=>(by rw[l10,h10]at h;cases h),fun _ h=>(by rw[hu.1]at h;cases h),fun _ _=>(by rw[hu.2.1];exact ho),fun h=>(by rw[l10,h10]at h;cases h),fun h _=>?_⟩
 rw[l9]at h;obtain⟨g,q1,q2,q3,q4,q5,_⟩:=H.s9 h h10;have hne:=q5 h4 h7
 refine⟨g,(by rw[u9];exact q1),q2,Nat.lt_of_lt_of_le q3 hg.size,fun i hi=>hg.cell (q4 i hi) (fun e=>hne e.symm),fun _ h=>(by rw[hu.1]at h;cases h),fun _ e=>?_⟩
 rw[hu.2.1]at e
 rcases hat with h'|h'
 ·rw[h']at e;exact hne e
 ·rw[h']at e;injection e with e;omega
theorem JH.app2(H:JH V T c vs st n0 L u W)(hu:Upd 17 13 v L u L' u')(h10:L 13=false)(h7:L 7=true)(h9:L 12=true)(hc:c 13=none)(ho:W'.ownsRow V.heap.size T 4 v (n0+1) (vs++st))(hg:W.grownBy W' (u 7).ownBlock):JH V T c vs st n0 L' u' W':=by
 have hr:=H.r7 h7 h10
 obtain⟨l4,-⟩:=hu.2.2 1 (by omega) (by omega)
 obtain⟨l7,-⟩:=hu.2.2 7 (by omega) (by omega)
 obtain⟨l9,-⟩:=hu.2.2 12 (by omega) (by omega)
 exact⟨H.b.grown hg H.b.size (fun x hx=>(World.ownsRow.lt hr x hx).1),H.keep hu hc,(by rw[l4,l7];exact H.w7),fun _=>⟨(by rw[l7];exact h7),(by rw[l9];exact h9)⟩,fun _ h=>(by rw[l7,h7]at h;cases h),fun _ h=>(by rw[hu.1]at h;cases h),fun _=>(by rw[hu.2.1];exact ho),fun _ h=>(by rw[hu.1]at h;cases h)⟩
theorem JH.pureAlloc(H:JH V T c vs st n0 L u W)(hu:Upd 17 i v L u L' u')(h1:i≠1/\i≠7/\i≠12/\i≠13)(hv:∀y,c i=some y->v=y)(o:Obj):JH V T c vs st n0 L' u' (W.alloc o):=by
 have H2:=H.pure hu h1 hv;have hb:Below W.heap.size W (W.alloc o):=(Below.refl _ _).alloc (Nat.le_refl _) _
 refine⟨H2.b.alloc H2.b.size _,H2.k,H2.w7,H2.w10,fun h h'=>(H2.r4 h h').alloc _,fun h h'=>(H2.r7 h h').alloc _,fun h=>(H2.r10 h).alloc _,fun h h'=>?_⟩
 obtain⟨g,q1,q2,q3,q4,q5,q6⟩:=H2.s9 h h'
 exact⟨g,q1,q2,Nat.lt_of_lt_of_le q3 hb.size,fun i hi=>(Frm.of_below hb).cell' (q4 i hi) id,q5,q6⟩
structure JK(V:World)(T:TypeId)(c:Nat->Option Value)(vs st:List Value)(n0:Nat)(x1 x2:Value)(L:Nat->Bool)(u:Nat->Value)(W:World):Prop where
 h:JH V T c vs st n0 L u W
 w15:L 15=true->L 13=true
 e15:L 15=true->u 15=J #[u 13,x1,x2]
 w16:L 16=true->L 15=true
 s16:L 16=true->∃g,u 16=B (some ⟨g,0,none⟩) 1 1/\V.heap.size<=g/\Cel W g [u 13,x1,x2]
variable {x1 x2:Value}
theorem JK.start(V:World)(T:TypeId)(c:Nat->Option Value)(vs st:List Value)(n0:Nat)(x1 x2:Value)(u:Nat->Value):JK V T c vs st n0 x1 x2 (fun _=>false) u V.drew:=
 ⟨JH.start _ _ _ _ _ _ _,fun h=>(by cases h),fun h=>(by cases h),fun h=>(by cases h),fun h=>(by cases h)⟩
theorem JK.pure(H:JK V T c vs st n0 x1 x2 L u W)(hu:Upd 17 i v L u L' u')(h1:i≠1/\i≠7/\i≠12/\i≠13/\i≠15/\i≠16)(hv:∀y,c i=some y->v=y):JK V T c vs st n0 x1 x2 L' u' W:=by
 obtain⟨l13,u13⟩:=hu.2.2 13 (by omega) (by omega)
 obtain⟨l15,u15⟩:=hu.2.2 15 (by omega) (by omega)
 obtain⟨l16,u16⟩:=hu.2.2 16 (by omega) (by omega)
 exact⟨H.h.pure hu (by omega) hv,by(rw[l15,l13];exact H.w15),by(rw[l15,u15,u13];exact H.e15),by(rw[l16,l15];exact H.w16),by(rw[l16,u16,u13];exact H.s16)⟩
theorem JK.low(H:JK V T c vs st n0 x1 x2 L u W)(hu:Upd 17 i v L u L' u')(hi:i<15)(h13:L 13=false)(h':JH V T c vs st n0 L' u' W'):JK V T c vs st n0 x1 x2 L' u' W':=by
 obtain⟨l15,-⟩:=hu.2.2 15 (by omega) (by omega)
 obtain⟨l16,-⟩:=hu.2.2 16 (by omega) (by omega)
 have h15:L 15=false:=by
  rcases h9:L 15 with _|_
  ·rfl
  ·have:=H.w15 h9;rw[h13]at this;cases this
 have h16:L 16=false:=by
  rcases h9:L 16 with _|_
  ·rfl
  ·have:=H.w16 h9;rw[h15]at this;cases this
 exact⟨h',fun h=>(by rw[l15,h15]at h;cases h),fun h=>(by rw[l15,h15]at h;cases h),fun h=>(by rw[l16,h16]at h;cases h),fun h=>(by rw[l16,h16]at h;cases h)⟩
theorem JK.b15(H:JK V T c vs st n0 x1 x2 L u W)(hu:Upd 17 15 v L u L' u')(hc:c 15=none)(hv:v=J #[u 13,x1,x2])(h13:L 13=true)(h15:L 15=false):JK V T c vs st n0 x1 x2 L' u' W:=by
 obtain⟨l13,u13⟩:=hu.2.2 13 (by omega) (by omega)
 obtain⟨l16,-⟩:=hu.2.2 16 (by omega) (by omega)
 have h16:L 16=false:=by
  rcases h9:L 16 with _|_
  ·rfl
  ·have:=H.w16 h9;rw[h15]at this;cases this
 exact⟨H.h.pure hu (by omega) (fun y hy=>by rw[hc]at hy;cases hy),fun _=>by(rw[l13];exact h13),fun _=>by(rw[hu.2.1,hv,u13]),fun h=>(by rw[l16,h16]at h;cases h),fun h=>(by rw[l16,h16]at h;cases h)⟩
theorem JK.b16(H:JK V T c vs st n0 x1 x2 L u W)(hu:Upd 17 16 (B (some ⟨W.heap.size,0,none⟩) 1 1) L u L' u')(hc:c 16=none)(h15:L 15=true)(T':TypeId):JK V T c vs st n0 x1 x2 L' u' (W.alloc (F #[u 13,x1,x2] T')):=by
 obtain⟨l13,u13⟩:=hu.2.2 13 (by omega) (by omega)
 obtain⟨l15,u15⟩:=hu.2.2 15 (by omega) (by omega)
 refine⟨H.h.pureAlloc hu (by omega) (fun y hy=>by rw[hc]at hy;cases hy) _,by(rw[l15,l13];exact H.w15),by(rw[l15,u15,u13];exact H.e15),fun _=>by(rw[l15];exact h15),fun _=>⟨W.heap.size,hu.2.1,H.h.b.size,?_⟩⟩
 rw[u13]
 exact Cel.new W #[u 13,x1,x2] T'
end
def AlcD(lo:Nat)(T:TypeId)(cs:List Value):RP:=fun v W=>∃g,v= .pointer (some ⟨g,0,none⟩)/\lo<=g/\Cel W g cs/\∃cur,W.heap[g]? =some (F cur T (0,0))
theorem bi(lo:Nat)(T:TypeId)(cs:List Value):Stb (AlcD lo T cs):=fun _ _ _ ⟨g,h1,h2,h3,cur,h4⟩ hb=>⟨g,h1,h2,h3.below hb,cur,(hb.block g h3.lt).trans h4⟩
theorem jv{lo:Nat}(W:World)(cs:Array Value)(T:TypeId)(h:lo<=W.heap.size):AlcD lo T cs.toList (.pointer (some ⟨W.heap.size,0,none⟩)) (W.alloc (F cs T)):=⟨_,rfl,h,Cel.new W cs T,cs,heap_alloc_new W _⟩
theorem own_ne{W:World}{base:Nat}{e T:TypeId}{v:Value}{xs:List Int}{g:Nat}(ho:OwnS W base e v xs)(h:∃cur,W.heap[g]? =some (F cur T (0,0)))(hT:e≠T):∀k,v.ownBlock=some k->k≠g:=by
 intro k hk he
 subst he;obtain⟨cur',h⟩:=h;obtain⟨_,h4⟩:=ho
 rcases h4 with⟨h4,_⟩|⟨g,cap,cur,h4,_,h5,_⟩
 ·rw[h4]at hk;cases hk
 ·rw[h4]at hk
  simp[Value.ownBlock]at hk
  subst hk;rw[h]at h5;injection h5 with h5;injection h5 with _ h6
  exact hT h6.symm
def BdQ(lo:Nat)(b:Bd):RP:=fun v W=>∃g1 k1 g2 k2,v=J #[B (some ⟨g1,0,none⟩) b.1.length k1,B (some ⟨g2,0,none⟩) b.2.length k2]/\OwnS W lo 2 (B (some ⟨g1,0,none⟩) b.1.length k1) b.1/\OwnS W lo 2 (B (some ⟨g2,0,none⟩) b.2.length k2) b.2
theorem stb_bdQ(lo:Nat)(b:Bd):Stb (BdQ lo b):=fun _ _ _ ⟨g1,k1,g2,k2,h1,h2,h3⟩ hb=>⟨g1,k1,g2,k2,h1,own_below h2 hb,own_below h3 hb⟩
end Go.Proofs.YtcmeoenkgmghkaaGreat

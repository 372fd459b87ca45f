/- Part of one proof. There are no conditions. -/
import Derived.Test.YtcmeoenkgmghkaaGreatOY15
set_option maxHeartbeats 0
set_option linter.unusedVariables false
set_option linter.unusedSimpArgs false
set_option maxRecDepth 100000
open Go.Value renaming slice->B,pointer->I,agg->J,bool->O
open Go.IntKind renaming i64->D
open Go.Obj renaming cells->F
open Go.Ending renaming returned->K
open Go renaming execOp->jz,undef->j1,World->j2,Value->qa,Calls->qb
open Go.Act renaming eval->qc
open Nat renaming le_refl->qd,le_trans->qe,lt_of_lt_of_le->qf
open Go.RowKit.Below renaming refl->qg
open Go.World.ownsRow renaming lt->qh
open List renaming take_of_length_le->qi,drop_succ_cons->qj,drop_zero->qk
open Go.Proofs.Tryz renaming prog->ql
namespace Go.Proofs.YtcmeoenkgmghkaaGreat
open Go.RowKit Pl Ps
theorem i7:∀(Q:List (List Bd×Nat)) (a:Nat),a<=Q.foldl (fun m x=>max m x.2) a/\∀x∈Q,x.2<=Q.foldl (fun m x=>max m x.2) a
 | [],a=>⟨qd _,fun x hx=>by cases hx⟩
 |y::Q,a=>by
   have h:=i7 Q (max a y.2)
   refine⟨qe (Nat.le_max_left _ _) h.1,fun x hx=>?_⟩
   rcases List.mem_cons.1 hx with rfl |hx
   ·exact qe (Nat.le_max_right _ _) h.1
   ·exact h.2 x hx
theorem le_maxQ{Q:List (List Bd×Nat)}{x:List Bd×Nat}(hx:x∈Q):x.2<=maxQ Q:=(i7 Q 0).2 x hx
theorem dN{α:Type}{l:List α}{i:Nat}(d:α)(hi:i<l.length):l.drop i=l.getD i d::l.drop (i+1):=by
 rw[List.drop_eq_getElem_cons hi]
 congr 1
 simp[List.getD,hi]
def RetAp(w:j2)(m:Nat)(l:List Bd)(fl:Bool)(e:Ending)(w':j2):Prop:=(fl=true->∃A k,e=K (.tuple #[B A l.length k,O true])/\PLs (fun k=>k<w.heap.size) w' m A l.length l/\l.length<=k)/\(fl=false->e=K (.tuple #[B none 0 0,O false]))/\Below w.heap.size w w'
theorem allPlays_any(P h C ra rb:Nat)(c s:Int)(A1 A2:Option Addr)(n1 c1 n2 c2:Nat)(own other:List Int)(w:j2)(h1:SL w A1 n1 own)(h2:SL w A2 n2 other)(hb:Sd P C (own,other))(hC:C<=255)(hP:P<=24)(hh:h<=1000)(ha:1<=ra/\ra<=1000)(hbb:1<=rb/\rb<=1000):
  qb ql 101 #[(J #[.int D (P:Int),.int D c,.int D (h:Int),.int D s]),(J #[B A1 n1 c1,B A2 n2 c2]),(J #[.int D (ra:Int),.int D (rb:Int)])] w (RetAp w 4 (playsP P h (own,other) ra rb) (fineR P h (own,other) ra rb)):=by
 obtain⟨j0,hj,jz0,jz1,jz2⟩:=info_parts Tryz.infoPl
 have hn1:n1=P+1:=by rw[<-h1.1];exact hb.len1
 have hn2:n2=P+1:=by rw[<-h2.1];exact hb.len2
 have CSQ:=h_ fun(W:j2) (hw:Below w.heap.size w W)=>lP P h C ra rb c s A1 A2 n1 c1 n2 c2 own other W (h1.below hw) (h2.below hw) hb hC hP hh ha hbb
 have CB:=h_ fun(W:j2) (hw:Below w.heap.size w W)=>ck A1 A2 n1 c1 n2 c2 own other W (h1.below hw) (h2.below hw) (by omega) (by omega) (by omega) (by omega)
 have HDB:=j9 ha hbb;have hdl:=ir ra rb
 have HQX:Hid (∀x∈Qs P h (own,other) (dice ra rb),x.2<=4/\x.1.length<=390625/\∀y∈x.1,Sd P C y):=fun x hx=>by
  obtain⟨ds,hds,rfl⟩:=List.mem_map.1 hx;obtain⟨q1,q2⟩:=HDB ds hds
  refine⟨qe (eX ds _) q1,?_,jo (fun d hd=>(q2 d hd).1) (fun y hy=>by rw[List.mem_singleton.1 hy];exact hb)⟩
  refine qe (gX hP ds _) ?_
  rw[List.length_singleton,Nat.one_mul]
  exact qe (Nat.pow_le_pow_right (by omega) q1) (by decide)
 have hql:1<=(Qs P h (own,other) (dice ra rb)).length/\(Qs P h (own,other) (dice ra rb)).length<=2:=by unfold Qs;rw[List.length_map];exact hdl
 have HPZ:Hid (maxQ (Qs P h (own,other) (dice ra rb))=0->playsP P h (own,other) ra rb=[(own,other)]):=playsP_zero;have HPN:Hid (maxQ (Qs P h (own,other) (dice ra rb))≠0->playsP P h (own,other) ra rb=allQ (maxQ (Qs P h (own,other) (dice ra rb))) (Qs P h (own,other) (dice ra rb)) []):=playsP_allQ
 have HF:Hid (Fr w (((w.alloc (F #[.int D (P:Int),.int D c,.int D (h:Int),.int D s] 33)).alloc (F #[B A1 n1 c1,B A2 n2 c2] 35)).alloc (F #[.int D (ra:Int),.int D (rb:Int)] 37)) [[.int D (P:Int),.int D c,.int D (h:Int),.int D s],[B A1 n1 c1,B A2 n2 c2],[.int D (ra:Int),.int D (rb:Int)]]):=(((Fr.start w).allocT (by simp) _ _).allocT (by simp) _ _).allocT (by simp) _ _
 clear h1 h2 hb ha hbb HDB hdl hn1 hn2;generalize playsP P h (own,other) ra rb=PL at *;generalize fineR P h (own,other) ra rb=R3 at *;generalize Qs P h (own,other) (dice ra rb)=Q at *;obtain⟨nq,hnq⟩:∃nq,nq=Q.length:=⟨_,rfl⟩;have HNQ:=h_ hnq
 have hq2:nq<=2:=by omega
 clear hql
 go_enter Tryz.func101,Tryz.ntmps101
 go_wp2_with (fail)
 refine(CSQ.out _ HF.out.b).mono ?_
 rintro e w1 ⟨v,rfl,⟨cs,hrow,hcs,hnb⟩,hb1⟩
 have HF1:=h_ (HF.out.below hb1)
 obtain⟨A9,c9,hv9,hsl,hc9⟩:=aY (S:=fun _=>False) hrow (fun _ _ h=>h) (by omega)
 have CU:Hid (∀W:j2,Below w1.heap.size w1 W->qb ql 169 #[B A9 nq c9] W fun e w'=>e=K (.int D (maxQ Q:Int))/\Below W.heap.size W w'):=fun W hw=>by
  rw[hnq]
  exact used_any _ 4 c9 A9 cs Q W (hsl.frm (Frm.of_below hw)) (fun i hi=>(hcs i hi).frm (Frm.of_below' _ hw)) (by omega) (fun i hi=>qe (HQX.out _ (ak Q _ hi)).1 (by omega))
 have HCS:=h_ hcs;have HSL:=h_ hsl
 have hzs:(((w.alloc (F #[.int D (P:Int),.int D c,.int D (h:Int),.int D s] 33)).alloc (F #[B A1 n1 c1,B A2 n2 c2] 35)).alloc (F #[.int D (ra:Int),.int D (rb:Int)] 37)).heap.size=w.heap.size+3:=by simp
 have HLO:Hid (∀k,v.ownBlock=some k->w.heap.size+3<=k):=fun k hk=>by have:=(qh hrow k hk).1;omega
 rw[<-hnq]at hv9;subst hv9;clear hrow hcs hnb hsl HF CSQ hnq hb1 hzs
 rcases R3 with _|_
 ·have HRE:Hid (RetAp w 4 PL false (K (.tuple #[B none 0 0,O false])) w1):=⟨fun h=>(by cases h),fun _=>rfl,HF1.out.b⟩
  go_wp2_with (fail)
  go_ret2
  exact HRE.out
 ·go_wp2_with (fail)
  refine(CU.out _ (qg _ _)).mono ?_
  rintro e w2 ⟨rfl,hb2⟩
  have HF2:=h_ (HF1.out.below hb2);have HB12:=h_ hb2;have hz12:w1.heap.size<=w2.heap.size:=hb2.size;have hzf:w.heap.size+3<=w1.heap.size:=HF1.out.z;clear CU hb2;obtain⟨N,hN⟩:∃N,N=maxQ Q:=⟨_,rfl⟩;rw[<-hN]at HPZ HPN ⊢
  have HNM:Hid (∀x∈Q,x.2<=N):=fun x hx=>by rw[hN];exact le_maxQ hx
  clear hN
  by_cases hN0:N=0
  ·have b0:((N:Int)==0)=true:=by simp[hN0]
   have HPE:=h_ (HPZ.out hN0);clear hN0 HPZ HPN
   have z0:=HF2.out.l0 (by simp)
   have c10:=HF2.out.c1 0 rfl;have c11:=HF2.out.c1 1 rfl
   go_wp2_with (fail)
   clear z0 c10 c11
   refine(CB.out _ HF2.out.b).mono ?_
   rintro e w3 ⟨g1,k1,g2,k2,rfl,ho1,ho2,_,hb3⟩
   have HRE:Hid (RetAp w 4 PL true (K (.tuple #[B (some ⟨w3.heap.size,0,none⟩) 1 1,O true])) (w3.alloc (F #[B none 0 0,B (some ⟨g1,0,none⟩) own.length k1,B (some ⟨g2,0,none⟩) other.length k2] 85))):=by
    have hz3:=hb3.size
    have q1:=OPl.made (S:=fun k=>k<w.heap.size) (m:=4) (base:=w.heap.size) (e:=85) (cs:=[B none 0 0,B (some ⟨g1,0,none⟩) own.length k1,B (some ⟨g2,0,none⟩) other.length k2]) (bs:=[(own,other)]) w3 (by omega) (fun k hk h9=>by have h9:k<w.heap.size:=h9;omega) (PEs.one ⟨StV.nil_ _ _ _,PV.own ho1 (fun k hk h9=>by have h9:k<w.heap.size:=h9;omega),PV.own ho2 (fun k hk h9=>by have h9:k<w.heap.size:=h9;omega)⟩) (by simp[maxLen])
    obtain⟨A8,c8,hv8,hp8,hc8⟩:=q1.read;injection hv8 with hA8 _ hc8';subst hA8 hc8';rw[HPE.out]
    exact⟨fun _=>⟨_,_,rfl,hp8,hc8⟩,fun h=>(by cases h),(HF2.out.below hb3).b.alloc (by omega) _⟩
   go_wp2_with (fail)
   go_ret2
   exact HRE.out
  ·have b0:((N:Int)==0)=false:=by simp;omega
   have HPE:=h_ (HPN.out hN0)
   have hUl:(Q.flatMap (·.1)).length<maxLen:=by
    have h9:=iM (·.1) 390625 Q (fun x hx=>(HQX.out x hx).2.1)
    have:Q.length<=2:=by rw[<-HNQ.out];exact hq2
    unfold maxLen;omega
   have HUL:=h_ hUl;have hmm:=@run_makeMap ql;have HFA:Hid (Fr w (w2.alloc (.map #[] 0)) [[.int D (P:Int),.int D c,.int D (h:Int),.int D s],[B A1 n1 c1,B A2 n2 c2],[.int D (ra:Int),.int D (rb:Int)]]):=HF2.out.alloc _
   have HSA:Hid (SeenM (w2.alloc (.map #[] 0)) w2.heap.size (Q.flatMap (·.1)) P C []):=SeenM.made w2 _ P C
   have HBA:Hid (Below w2.heap.size w2 (w2.alloc (.map #[] 0))):=(qg _ _).alloc (qd _) _
   have HZA:Hid (w2.heap.size+1<=(w2.alloc (.map #[] 0)).heap.size):=by unfold Hid;simp
   clear hUl HPZ HPN HF1 CB
   go_wp2_with (fail)
   clear hmm
   go_loopw [12,38] (fun v12 v38 wr=>∃(i:Nat) (acc:List Bd),i<=nq/\v38= .int D i/\(∃vx,vx=v12/\Hid (OPl (fun k=>k<w.heap.size\/k=w2.heap.size) wr 4 (w2.heap.size+1) 85 vx acc))/\Hid (SeenM wr w2.heap.size (Q.flatMap (·.1)) P C acc)/\Hid (acc.length<=i*390625)/\Hid (PL=allQ N (Q.drop i) acc)/\Hid (Below w2.heap.size w2 wr)/\Hid (w2.heap.size+1<=wr.heap.size)/\Hid (Fr w wr [[.int D (P:Int),.int D c,.int D (h:Int),.int D s],[B A1 n1 c1,B A2 n2 c2],[.int D (ra:Int),.int D (rb:Int)]])) (fun _ v38 _=>nq-(intOf v38).toNat)
   case atStart=>exact⟨0,[],by omega,rfl,⟨_,rfl,OPl.nil_ _ _ _ _ _⟩,HSA.out,by simp[Hid],by rw[HPE.out];rfl,HBA.out,HZA.out,HFA.out⟩
   case round=>
    clear HFA HSA HBA HPE HZA;obtain⟨i,acc,hin,rfl,⟨vx,rfl,HO⟩,HS,HAL,HPR,HB,HZ,HF⟩:=hrel
    by_cases hlt:i<nq
    ·have hki:(i:Int)<(nq:Int):=by omega
     have hiQ:i<Q.length:=by have:=HNQ.out;omega
     have HDR:Hid (Q.drop i=Q.getD i ([],0)::Q.drop (i+1)):=dN _ hiQ;have hQm:=ak Q ([],0) hiQ;obtain⟨_,hrl,hrs⟩:=HQX.out _ hQm;have hkm:=HNM.out _ hQm;obtain⟨g,cg,Ag,cr,hv,hkc,_,-,hgc,hrc,hpl⟩:=HCS.out i hiQ
     obtain⟨b9,o9,rfl,hb9,_,hcell⟩:=HSL.out.2 (by have:=HNQ.out;omega)
     have HBf:Below w1.heap.size w1 wr:=HB12.out.trans (HB.out.mono hz12)
     have y0:=(Frm.of_below HBf).cell' (hcell i (by omega)) id
     rw[hv]at y0;have z0:=(Frm.of_below HBf).cell' hgc id
     have HPW:Hid (∀W:j2,Below w2.heap.size w2 W->PLs (wth (fun k=>k<(((w.alloc (F #[.int D (P:Int),.int D c,.int D (h:Int),.int D s] 33)).alloc (F #[B A1 n1 c1,B A2 n2 c2] 35)).alloc (F #[.int D (ra:Int),.int D (rb:Int)] 37)).heap.size) (B (some ⟨b9,o9,none⟩) nq c9)) W 4 Ag (Q.getD i ([],0)).1.length (Q.getD i ([],0)).1):=fun W hw=>hpl.below (HB12.out.trans (hw.mono hz12))
     have HUM:Hid (∀y∈(Q.getD i ([],0)).1,y∈Q.flatMap (·.1)):=fun y hy=>List.mem_flatMap.2 ⟨_,hQm,hy⟩
     generalize Q.getD i ([],0)=X at *;obtain⟨row,k⟩:=X
     simp only at *
     have HRS:=h_ hrs;have HRL:=h_ hrl;obtain⟨K1,hK1⟩:∃K1,K1=k+1:=⟨_,rfl⟩;rw[<-hK1]at y0 hkc;clear hcell hv HBf hpl hQm hiQ hrs hrl
     by_cases hkN:k+1<=N
     ·have hle:(K1:Int)<=(N:Int):=by omega
      have HPR2:Hid (PL=allQ N (Q.drop (i+1)) acc):=by
       unfold Hid;rw[HPR.out,HDR.out]
       show(if k+1<=N then _ else _)=_
       rw[if_pos hkN]
      have HAL2:Hid (acc.length<=(i+1)*390625):=qe HAL.out (Nat.mul_le_mul_right _ (Nat.le_succ i));clear HPR HDR hkN z0 hgc
      go_wp2_with (fail)
      exact⟨⟨i+1,acc,by omega,by go_num,⟨vx,rfl,HO⟩,HS,HAL2,HPR2,HB,HZ,HF⟩,by simp[intOf];omega⟩
     ·have hle:¬(K1:Int)<=(N:Int):=by omega
      have hkN2:k=N:=by omega
      have hlt2:(N:Int)<(K1:Int):=by omega
      rw[hkN2]at z0
      have HPR2:Hid (PL=if N=1 then joinP acc row else allQ N (Q.drop (i+1)) (joinP acc row)):=by
       unfold Hid;rw[HPR.out,HDR.out]
       show(if k+1<=N then _ else _)=_
       rw[if_neg hkN]
      obtain⟨rl,hrl2⟩:∃rl,rl=row.length:=⟨_,rfl⟩;rw[<-hrl2]at z0 hrc HPW;have HRLN:=h_ hrl2
      have hrl6:rl<=390625:=by rw[hrl2];exact HRL.out
      obtain⟨wo,rfl⟩:∃wo:j2,wo=wr:=⟨_,rfl⟩;clear HPR HDR hkN hkN2 hgc hrl2 hK1
      go_wp2_with (fail)
      go_loopw [12,51] (fun v12 v51 wr=>∃(k:Nat),k<=rl/\v51= .int D k/\(∃vx,vx=v12/\Hid (OPl (fun k=>k<w.heap.size\/k=w2.heap.size) wr 4 (w2.heap.size+1) 85 vx (joinP acc (row.take k))))/\Hid (SeenM wr w2.heap.size (Q.flatMap (·.1)) P C (joinP acc (row.take k)))/\Hid (Below w2.heap.size w2 wr)/\Hid (w2.heap.size+1<=wr.heap.size)/\Hid (Fr w wr [[.int D (P:Int),.int D c,.int D (h:Int),.int D s],[B A1 n1 c1,B A2 n2 c2],[.int D (ra:Int),.int D (rb:Int)]])) (fun _ v51 _=>rl-(intOf v51).toNat)
      case atStart=>exact⟨0,by omega,rfl,⟨_,rfl,HO.out⟩,HS.out,HB.out,HZ.out,HF.out⟩
      case round=>
       clear HO HS HB HF HZ;obtain⟨k,hkr,rfl,⟨vy,rfl,HO⟩,HS,HB,HZ,HF⟩:=hrel;have hzz:=HZ.out
       by_cases hlt3:k<rl
       ·have hkj:(k:Int)<(rl:Int):=by omega
        have hkj2:k<rl:=hlt3;obtain⟨b,off,A0,n0,c0,B1,m1,d1,B2,m2,d2,hAg,-,_,y0,y1,y2,⟨vs,q0,q1,q2,q3⟩,p1,r1,p2,r2⟩:=(HPW.out w2 (qg _ _)).at hkj2;have HFB:=Frm.of_below HB.out;have x0:=HFB.cell' y0 id;have x1:=HFB.cell' y1 id;have x2:=HFB.cell' y2 id
        have hkrow:k<row.length:=by have:=HRLN.out;omega
        have HTJ:Hid (joinP acc (row.take (k+1))=addN (joinP acc (row.take k)) (row.getD k ([],[]))):=kZ hkrow;have HNS:=h_ (HRS.out _ (ak row ([],[]) hkrow));have HNU:=h_ (HUM.out _ (ak row ([],[]) hkrow));obtain⟨nx,hnx⟩:∃nx,nx=row.getD k ([],[]):=⟨_,rfl⟩;rw[<-hnx]at p1 p2 HTJ HNS HNU
        have HPE:Hid (∀(S':Nat->Prop) (W:j2),(∀k,S' k->k<(((w.alloc (F #[.int D (P:Int),.int D c,.int D (h:Int),.int D s] 33)).alloc (F #[B A1 n1 c1,B A2 n2 c2] 35)).alloc (F #[.int D (ra:Int),.int D (rb:Int)] 37)).heap.size\/(∃k9,(Value.slice (some ⟨b9,o9,none⟩) nq c9).ownBlock=some k9/\k=k9)\/w2.heap.size<=k)->Below w2.heap.size w2 W->PEs S' W 4 [B A0 n0 c0,B B1 m1 d1,B B2 m2 d2] [nx]):=fun S' W hS hw=>by
         have hS2:∀k,S' k->wth (fun k=>k<(((w.alloc (F #[.int D (P:Int),.int D c,.int D (h:Int),.int D s] 33)).alloc (F #[B A1 n1 c1,B A2 n2 c2] 35)).alloc (F #[.int D (ra:Int),.int D (rb:Int)] 37)).heap.size) (B (some ⟨b9,o9,none⟩) nq c9) k\/w2.heap.size<=k:=fun k hk=>by
          rcases hS k hk with h|⟨k9,h,rfl⟩|h
          ·exact .inl (.inl h)
          ·exact .inl (.inr h)
          ·exact .inr h
         refine PEs.one (PE.frm (S:=S') ⟨⟨A0,n0,c0,vs,rfl,q0.set hS2,q1,q2,q3⟩,⟨B1,m1,d1,rfl,?_,r1⟩,⟨B2,m2,d2,rfl,?_,r2⟩⟩ (Frm.of_below' _ hw))
         ·exact p1.set hS2
         ·exact p2.set hS2
        have CK:Hid (∀W:j2,Below w2.heap.size w2 W->qb ql 171 #[J #[B B1 m1 d1,B B2 m2 d2]] W fun e w'=>e=K (keyV nx)/\Below W.heap.size W w'):=fun W hw=>by
         have e1:nx.1.length=m1:=p1.1.1;have e2:nx.2.length=m2:=p2.1.1
         exact i8 B1 B2 m1 d1 m2 d2 nx.1 nx.2 W (p1.1.below hw) (p2.1.below hw) (dD HNS.out.1 hC) (dD HNS.out.2 hC) (by have:=HNS.out.len1;omega) (by have:=HNS.out.len2;omega)
        subst hAg;clear y0 y1 y2 HFB q0 q1 q2 q3 p1 p2 r1 r2 hnx;have HBp:Hid (Below wr.heap.size wr (wr.alloc (F #[B A0 n0 c0,B B1 m1 d1,B B2 m2 d2] 85))):=(qg _ _).alloc (qd _) _;have HCp:=h_ (Cel.new wr #[B A0 n0 c0,B B1 m1 d1,B B2 m2 d2] 85);have hzw2:w2.heap.size<=wr.heap.size:=HB.out.size
        go_wp2_with (fail)
        refine(CK.out _ (HB.out.trans (HBp.out.mono hzw2))).mono ?_
        rintro e w4 ⟨rfl,hb4⟩
        have hz4:wr.heap.size+1<=w4.heap.size:=by have:=hb4.size;simpa using this
        have HC4:=h_ (HCp.out.below hb4);have HB4:Hid (Below wr.heap.size wr w4):=HBp.out.trans (hb4.mono HBp.out.size);have HB24:Hid (Below w2.heap.size w2 w4):=HB.out.trans (HB4.out.mono hzw2);have HS4:=h_ (HS.out.below HB4.out);have HO4:=h_ (HO.out.below HB4.out);have HF4:=h_ (HF.out.below HB4.out);have HVY:=h_ HO.out.lt
        have hlk:=HS4.out.look (b:=nx) (by omega) HNS.out
        obtain⟨kv,hkv⟩:∃kv,kv=keyV nx:=⟨_,rfl⟩;have HKV:=h_ hkv;rw[<-hkv]at hlk ⊢;clear hb4 HBp HCp HS HO HF HB HB4 hkv x0 x1 x2
        by_cases hin2:nx∈joinP acc (row.take k)
        ·have HE:Hid (joinP acc (row.take (k+1))=joinP acc (row.take k)):=by unfold Hid;rw[HTJ.out,mK hin2]
         rw[show decide (nx∈joinP acc (row.take k))=true from decide_eq_true hin2]at hlk
         clear hin2
         go_wp2_with (fail)
         exact⟨⟨k+1,by omega,by go_num,⟨vy,rfl,by rw[HE.out];exact HO4.out⟩,by rw[HE.out];exact HS4.out,HB24,by unfold Hid;omega,HF4⟩,by simp[intOf];omega⟩
        ·have HE:Hid (joinP acc (row.take (k+1))=joinP acc (row.take k)++[nx]):=by unfold Hid;rw[HTJ.out,jt hin2]
         rw[show decide (nx∈joinP acc (row.take k))=false from decide_eq_false hin2]at hlk
         obtain⟨w5,hup,hs5,hg5⟩:=HS4.out.store (b:=nx) hC (by omega) HNS.out HNU.out HUL.out
         rw[<-HKV.out]at hup;have HS5:=h_ hs5;have hz5:w4.heap.size<=w5.heap.size:=hg5.size
         have HB25:Hid (Below w2.heap.size w2 w5):=HB24.out.grown hg5 (by omega) (fun x hx=>by injection hx with hx;omega)
         have HF45:Hid (Frm (fun k=>k=w2.heap.size) w4 w5):=(Frm.of_grown hg5).mono fun k hk=>by injection hk
         have HO5:Hid (OPl (fun k=>k<w.heap.size\/k=w2.heap.size) w5 4 (w2.heap.size+1) 85 vy (joinP acc (row.take k))):=HO4.out.frm (HF45.out.mono fun k hk=>.inr hk)
         have HC5:Hid (Cel w5 wr.heap.size [B A0 n0 c0,B B1 m1 d1,B B2 m2 d2]):=HC4.out.frmP HF45.out (by omega)
         have HF5:Hid (Fr w w5 [[.int D (P:Int),.int D c,.int D (h:Int),.int D s],[B A1 n1 c1,B A2 n2 c2],[.int D (ra:Int),.int D (rb:Int)]]):=HF4.out.frm HF45.out (fun k hk=>by omega) (fun k hk=>by simp;omega)
         have HKL:Hid ((joinP acc (row.take k)).length<=1200000):=by
          have h1:=cS (row.take k) acc
          have h2:(row.take k).length<=rl:=by rw[List.length_take];omega
          have h3:=qe HAL.out (Nat.mul_le_mul_right 390625 (show i<=2 by omega))
          have h4:2*390625=781250:=by decide
          rw[h4]at h3
          show(joinP acc (row.take k)).length<=1200000
          omega
         obtain⟨cs,hrow,hpe,hnb⟩:=HO5.out;have HROW:Hid ((w5.alloc (F #[B A0 n0 c0,B B1 m1 d1,B B2 m2 d2] 85)).ownsRow (w2.heap.size+1) 85 3 vy (joinP acc (row.take k)).length cs):=World.ownsRow.alloc hrow _
         have HPV:Hid (PEs (wth (fun k=>k<w.heap.size\/k=w2.heap.size) vy) (w5.alloc (F #[B A0 n0 c0,B B1 m1 d1,B B2 m2 d2] 85)) 4 cs (joinP acc (row.take k))):=hpe.frm ((Frm.refl _ _).alloc _)
         have HPN:Hid (PEs (wth (fun k=>k<w.heap.size\/k=w2.heap.size) vy) (w5.alloc (F #[B A0 n0 c0,B B1 m1 d1,B B2 m2 d2] 85)) 4 [B A0 n0 c0,B B1 m1 d1,B B2 m2 d2] [nx]):=HPE.out _ _ (fun k hk=>by
          rcases hk with hk|hk
          ·rcases hk with hk|hk
           ·exact .inl (by have hzs:(((w.alloc (F #[.int D (P:Int), .int D c, .int D (h:Int), .int D s] 33)).alloc (F #[B A1 n1 c1,B A2 n2 c2] 35)).alloc (F #[.int D (ra:Int), .int D (rb:Int)] 37)).heap.size=w.heap.size+3:=by simp
                           omega)
           ·exact .inr (.inr (by omega))
          ·exact .inr (.inr (by have:=(HVY.out k hk).1;omega))) (HB25.out.alloc (by omega) _)
         have HNB:=h_ hnb
         have HNW:Hid (∀j u,[B A0 n0 c0,B B1 m1 d1,B B2 m2 d2][j]? =some u->(w5.alloc (F #[B A0 n0 c0,B B1 m1 d1,B B2 m2 d2] 85)).cell? ((⟨w5.heap.size,0,none⟩:Addr).add j)=some u):=fun j u hj=>by
          have h9:=(Cel.new w5 #[B A0 n0 c0,B B1 m1 d1,B B2 m2 d2] 85).cell j u hj;unfold Addr.add
          split
          ·rename_i h0;rw[h0]at h9;exact h9
          ·rw[Nat.zero_add];exact h9
         have x0:=HC5.out.cell 0 _ rfl;have x1:=HC5.out.cell 1 _ rfl;have x2:=HC5.out.cell 2 _ rfl;have xz:=HC5.out.lt;clear hin2 hs5 hg5 HS4 HO4 HF4 hrow hpe hnb HPE HC4 HC5 HB24 HO5
         go_wp2_with (at_builtin;(refine wpList_append_own_at _ rfl _ _ 79 rfl (w2.heap.size+1) 85 j0 (J #[B none 0 0,B none 0 0,B none 0 0]) 3 72 Tryz.underlying79 hj jz0 jz1 jz2 rfl (by decide) _ _ _ rfl HROW.out ⟨w5.heap.size,0,none⟩ 1 1 [B A0 n0 c0,B B1 m1 d1,B B2 m2 d2] rfl rfl HNW.out (fun u hu=>by simp at hu;rcases hu with rfl|rfl|rfl<;>rfl) (by have:=HKL.out;unfold maxLen;omega) (by have:=HKL.out;omega) (by simp;omega) ?_);intro v' w6 hown hgrow _ hat)
         have hzA:(w5.alloc (F #[B A0 n0 c0,B B1 m1 d1,B B2 m2 d2] 85)).heap.size=w5.heap.size+1:=by simp
         have HO6:Hid (OPl (fun k=>k<w.heap.size\/k=w2.heap.size) w6 4 (w2.heap.size+1) 85 v' (joinP acc (row.take (k+1)))):=by
          unfold Hid;rw[HE.out]
          refine OPl.grew2 HPV.out HPN.out hown rfl hgrow hat HNB.out (fun h9=>?_)
          rw[hzA]at h9
          rcases h9 with h9|h9<;>omega
         have hbA:Below w5.heap.size w5 (w5.alloc (F #[B A0 n0 c0,B B1 m1 d1,B B2 m2 d2] 85)):=(qg _ _).alloc (qd _) _
         have HS6:Hid (SeenM w6 w2.heap.size (Q.flatMap (·.1)) P C (joinP acc (row.take (k+1)))):=by
          unfold Hid;rw[HE.out]
          exact(HS5.out.below hbA).frm (Frm.of_grown hgrow) (fun h9=>by have:=(HVY.out _ h9.symm).1;omega)
         have HB6:Hid (Below w2.heap.size w2 w6):=(HB25.out.alloc (by omega) _).grown hgrow (by omega) (fun x hx=>by have:=(HVY.out x hx).1;omega)
         have HF6:Hid (Fr w w6 [[.int D (P:Int),.int D c,.int D (h:Int),.int D s],[B A1 n1 c1,B A2 n2 c2],[.int D (ra:Int),.int D (rb:Int)]]):=(HF5.out.alloc _).frm (Frm.of_grown hgrow) (fun k hk=>by have:=(HVY.out k hk.symm).1;omega) (fun k hk=>by have:=(HVY.out k hk.symm).1;simp;omega)
         have hz6:=hgrow.size
         have HZ6:Hid (w2.heap.size+1<=w6.heap.size):=by unfold Hid;omega
         clear hown hgrow hat HNW HNB HPN HPV HROW hzA hbA hz6
         exact⟨⟨k+1,by omega,by go_num,⟨v',rfl,HO6⟩,HS6,HB6,HZ6,HF6⟩,by simp[intOf];omega⟩
       ·have hkj:¬(k:Int)<(rl:Int):=by omega
        have HTE:Hid (joinP acc (row.take k)=joinP acc row):=by
         unfold Hid
         rw[qi (by have:=HRLN.out;omega)]
        by_cases h1N:N=1
        ·have b1:((N:Int)==1)=true:=by simp[h1N]
         have HRE:Hid (RetAp w 4 PL true (K (.tuple #[vy,O true])) wr):=by
          have h9:=HPR2.out;rw[if_pos h1N,<-HTE.out]at h9;obtain⟨A8,c8,hv8,hp8,hc8⟩:=HO.out.read;rw[h9]
          exact⟨fun _=>⟨A8,c8,by rw[hv8],hp8.set fun k hk=>.inl (.inl hk),hc8⟩,fun h=>(by cases h),HF.out.b⟩
         clear HO HS HPR2 h1N HTE
         go_wp2_with (fail)
         go_ret2
         exact HRE.out
        ·have b1:((N:Int)==1)=false:=by simp;omega
         have HPR3:Hid (PL=allQ N (Q.drop (i+1)) (joinP acc row)):=by have h9:=HPR2.out;rw[if_neg h1N]at h9;exact h9
         have HAL2:Hid ((joinP acc row).length<=(i+1)*390625):=by
          refine qe (cS row acc) ?_
          rw[Nat.add_mul,Nat.one_mul]
          exact Nat.add_le_add HAL.out HRL.out
         have HO7:=HO;rw[HTE.out]at HO7;have HS7:=HS;rw[HTE.out]at HS7;clear HO HS HPR2 h1N HTE
         go_wp2_with (fail)
         exact⟨⟨i+1,joinP acc row,by omega,by go_num,⟨vy,rfl,HO7⟩,HS7,HAL2,HPR3,HB,HZ,HF⟩,by simp[intOf];omega⟩
    ·have hki:¬(i:Int)<(nq:Int):=by omega
     have HRE:Hid (RetAp w 4 PL true (K (.tuple #[vx,O true])) wr):=by
      have h9:=HPR.out
      rw[List.drop_of_length_le (by have:=HNQ.out;omega)]at h9
      obtain⟨A8,c8,hv8,hp8,hc8⟩:=HO.out.read;rw[h9]
      show RetAp w 4 acc true _ _
      exact⟨fun _=>⟨A8,c8,by rw[hv8],hp8.set fun k hk=>.inl (.inl hk),hc8⟩,fun h=>(by cases h),HF.out.b⟩
     clear HO HS HPR
     go_wp2_with (fail)
     go_ret2
     exact HRE.out
theorem ic(S:Nat->Prop)(a b:Nat)(w:j2)(hS:∀k,w.heap.size<=k->¬S k):
  qb ql 189 #[J #[.int D a,.int D b]] w (RetL S w (castD (dice a b))):=by
 have HSS:=h_ hS;clear hS
 by_cases hab:a=b
 ·subst hab
  have HB1:Hid (Below w.heap.size w (w.alloc (F #[.int D a,.int D a] 37))):=(qg _ _).alloc (qd _) _
  have HO:=h_ (OwnS.made (w.alloc (F #[.int D a,.int D a] 37)) (base:=w.heap.size) 2 [(a:Int),a,a,a] #[.int D a,.int D a,.int D a,.int D a] (n:=4) rfl rfl HB1.out.size (by unfold maxLen;omega))
  have HB2:=h_ (HB1.out.alloc HB1.out.size (F #[.int D a,.int D a,.int D a,.int D a] 2));have HP:=h_ (OP.one (S:=S) HB2.out HSS.out (PV.own HO.out HSS.out));have HB3:=h_ (HB2.out.alloc HB2.out.size (F #[B (some ⟨(w.alloc (F #[.int D a,.int D a] 37)).heap.size,0,none⟩) 4 4] 24))
  go_enter Tryz.func189,Tryz.ntmps189
  go_wp2
  go_ret
  have e:castD (dice a a)=[[(a:Int),a,a,a]]:=by rw[gr];rfl
  rw[e]
  refine⟨w.heap.size+1+1,0,1,1,rfl,?_,by omega,?_⟩
  ·have h:=HP.out;simpa using h
  ·have h:=HB3.out;simpa using h
 ·have b0:((a:Int)==(b:Int))=false:=by simp;omega
  have HB1:Hid (Below w.heap.size w (w.alloc (F #[.int D a,.int D b] 37))):=(qg _ _).alloc (qd _) _
  have HO1:=h_ (OwnS.made (w.alloc (F #[.int D a,.int D b] 37)) (base:=w.heap.size) 2 [(a:Int),b] #[.int D a,.int D b] (n:=2) rfl rfl HB1.out.size (by unfold maxLen;omega))
  have HB2:=h_ (HB1.out.alloc HB1.out.size (F #[.int D a,.int D b] 2))
  have HO2:=h_ (OwnS.made ((w.alloc (F #[.int D a,.int D b] 37)).alloc (F #[.int D a,.int D b] 2)) (base:=w.heap.size) 2 [(b:Int),a] #[.int D b,.int D a] (n:=2) rfl rfl HB2.out.size (by unfold maxLen;omega))
  have HO3:=h_ (HO1.out.alloc' (F #[.int D b,.int D a] 2));have HB3:=h_ (HB2.out.alloc HB2.out.size (F #[.int D b,.int D a] 2))
  have HP:=h_ (OP.made (S:=S) (e:=24) _ HB3.out.size HSS.out ((PVs.one (PV.own HO3.out HSS.out)).snoc (PV.own HO2.out HSS.out)) (by unfold maxLen;simp))
  have HB4:=h_ (HB3.out.alloc HB3.out.size (F #[B (some ⟨(w.alloc (F #[.int D a,.int D b] 37)).heap.size,0,none⟩) 2 2,B (some ⟨((w.alloc (F #[.int D a,.int D b] 37)).alloc (F #[.int D a,.int D b] 2)).heap.size,0,none⟩) 2 2] 24))
  go_enter Tryz.func189,Tryz.ntmps189
  go_wp2
  go_ret
  have e:castD (dice a b)=[[(a:Int),b],[(b:Int),a]]:=by rw[fc hab];rfl
  rw[e];obtain⟨A,c,hv,hpl,_⟩:=HP.out.read;injection hv with h1 h2 h3;subst h1
  refine⟨w.heap.size+1+1+1,0,2,2,rfl,?_,by omega,?_⟩
  ·simpa using hpl
  ·have h:=HB4.out;simpa using h
theorem jV:∀{l k:List Int},l.length=k.length->(∀j,j<l.length->l.getD j 0=k.getD j 0)->l=k
 | [],[],_,_=>rfl
 | [],y::k,h,_=>by simp at h
 |x::l,[],h,_=>by simp at h
 |x::l,y::k,h,he=>by
   have h0:=he 0 (by simp)
   rw [List.getD_cons_zero,List.getD_cons_zero]at h0
   have e:=jV (l:=l) (k:=k) (by simpa using h) (fun j hj=>by
     have:=he (j+1) (by simp;omega)
     rwa [List.getD_cons_succ,List.getD_cons_succ]at this)
   rw [h0,e]
theorem l05Same_any(A1 A2 B1 B2:Option Addr)(n1 c1 n2 c2 d1 d2:Nat)(o1 t1 o2 t2:List Int)(w:j2)(ha1:SL w A1 n1 o1)(ha2:SL w A2 n2 t1)(hb1:SL w B1 n1 o2)(hb2:SL w B2 n2 t2)(hn1:n1<=1000)(hn2:n2<=1000):
  qb ql 213 #[J #[B A1 n1 c1,B A2 n2 c2],J #[B B1 n1 d1,B B2 n2 d2]] w fun e w'=>e=K (O (decide ((o1,t1)=(o2,t2))))/\Below w.heap.size w w':=by
 have HA1:=h_ fun(W:j2) (hw:Below w.heap.size w W)=>ha1.below hw
 have HA2:=h_ fun(W:j2) (hw:Below w.heap.size w W)=>ha2.below hw
 have HB1:=h_ fun(W:j2) (hw:Below w.heap.size w W)=>hb1.below hw
 have HB2:=h_ fun(W:j2) (hw:Below w.heap.size w W)=>hb2.below hw
 have HR1:Hid (∀i,o1.getD i 0≠o2.getD i 0->decide ((o1,t1)=(o2,t2))=false):=fun i h=>decide_eq_false (fun e=>h (by rw[(Prod.mk.inj e).1]))
 have HR2:Hid (∀i,t1.getD i 0≠t2.getD i 0->decide ((o1,t1)=(o2,t2))=false):=fun i h=>decide_eq_false (fun e=>h (by rw[(Prod.mk.inj e).2]))
 have HRT:Hid ((∀j,j<n1->o1.getD j 0=o2.getD j 0)->(∀j,j<n2->t1.getD j 0=t2.getD j 0)->decide ((o1,t1)=(o2,t2))=true):=fun h1 h2=>by
  have e1:=jV (l:=o1) (k:=o2) (by rw[ha1.1,hb1.1]) (by rw[ha1.1];exact h1)
  have e2:=jV (l:=t1) (k:=t2) (by rw[ha2.1,hb2.1]) (by rw[ha2.1];exact h2)
  exact decide_eq_true (by rw[e1,e2])
 have HF:Hid (Fr w ((w.alloc (F #[B A1 n1 c1,B A2 n2 c2] 35)).alloc (F #[B B1 n1 d1,B B2 n2 d2] 35)) [[B A1 n1 c1,B A2 n2 c2],[B B1 n1 d1,B B2 n2 d2]]):=((Fr.start w).allocT (by simp) _ _).allocT (by simp) _ _
 generalize decide ((o1,t1)=(o2,t2))=R at *;clear ha1 ha2 hb1 hb2
 go_enter Tryz.func213,Tryz.ntmps213
 go_wp2_with (fail)
 go_loopw [5] (fun v5 wr=>∃(i:Nat),i<=n1/\v5= .int D i/\Hid (∀j,j<i->o1.getD j 0=o2.getD j 0)/\Hid (Fr w wr [[B A1 n1 c1,B A2 n2 c2],[B B1 n1 d1,B B2 n2 d2]])) (fun v5 _=>n1-(intOf v5).toNat)
 case atStart=>exact⟨0,by omega,rfl,fun j hj=>absurd hj (by omega),HF.out⟩
 case round=>
  clear HF;obtain⟨i,hin,rfl,HE,HF⟩:=hrel
  by_cases hlt:i<n1
  ·have hji:(i:Int)<(n1:Int):=by omega
   obtain⟨ba,oa,rfl,hba,hca⟩:=(HA1.out wr HF.out.b).2 (by omega)
   obtain⟨bb,ob,rfl,hbb,hcb⟩:=(HB1.out wr HF.out.b).2 (by omega)
   have y0:=hca i hlt;have y1:=hcb i hlt;have HNE:Hid (o1.getD i 0≠o2.getD i 0->R=false):=HR1.out i
   have HE2:Hid (o1.getD i 0=o2.getD i 0->∀j,j<i+1->o1.getD j 0=o2.getD j 0):=fun h j hj=>by
    by_cases e:j=i
    ·rw[e];exact h
    ·exact HE.out j (by omega)
   generalize o1.getD i 0=x at *;generalize o2.getD i 0=y at *;clear hca hcb HE;have c00:=HF.out.c0 0 rfl;have c10:=HF.out.c1 0 rfl
   by_cases hxy:x=y
   ·have b0:(x !=y)=false:=by simp[hxy]
    have HE3:=h_ (HE2.out hxy);have HF9:Hid (Fr w wr.drew [[B (some ⟨ba,oa,none⟩) n1 c1,B A2 n2 c2],[B (some ⟨bb,ob,none⟩) n1 d1,B B2 n2 d2]]):=HF.out.drew;clear hxy HE2 HNE HF
    go_wp2_with (fail)
    go_region
    go_wp2_with (fail)
    exact⟨⟨i+1,by omega,by go_num,HE3,HF9⟩,by simp[intOf];omega⟩
   ·have b0:(x !=y)=true:=by simp[hxy]
    have HRF:=h_ (HNE.out hxy);clear hxy HE2 HNE
    go_wp2_with (fail)
    go_region
    go_wp2_with (fail)
    go_ret
    exact⟨by rw[HRF.out];rfl,drw HF.out.b⟩
  ·have hji:¬(i:Int)<(n1:Int):=by omega
   have HE1:Hid (∀j,j<n1->o1.getD j 0=o2.getD j 0):=fun j hj=>HE.out j (by omega)
   clear HE;have c00:=HF.out.c0 0 rfl
   go_wp2_with (fail)
   clear c00;obtain⟨wa,rfl⟩:∃wa:j2,wa=wr:=⟨_,rfl⟩
   go_loopw [6] (fun v6 wr=>∃(i:Nat),i<=n2/\v6= .int D i/\Hid (∀j,j<i->t1.getD j 0=t2.getD j 0)/\Hid (Fr w wr [[B A1 n1 c1,B A2 n2 c2],[B B1 n1 d1,B B2 n2 d2]])) (fun v6 _=>n2-(intOf v6).toNat)
   case atStart=>exact⟨0,by omega,rfl,fun j hj=>absurd hj (by omega),HF.out⟩
   case round=>
    clear HF;obtain⟨i,hin,rfl,HE,HF⟩:=hrel
    by_cases hlt:i<n2
    ·have hji:(i:Int)<(n2:Int):=by omega
     obtain⟨ba,oa,rfl,hba,hca⟩:=(HA2.out wr HF.out.b).2 (by omega)
     obtain⟨bb,ob,rfl,hbb,hcb⟩:=(HB2.out wr HF.out.b).2 (by omega)
     have y0:=hca i hlt;have y1:=hcb i hlt;have HNE:Hid (t1.getD i 0≠t2.getD i 0->R=false):=HR2.out i
     have HE2:Hid (t1.getD i 0=t2.getD i 0->∀j,j<i+1->t1.getD j 0=t2.getD j 0):=fun h j hj=>by
      by_cases e:j=i
      ·rw[e];exact h
      ·exact HE.out j (by omega)
     generalize t1.getD i 0=x at *;generalize t2.getD i 0=y at *;clear hca hcb HE;have c01:=HF.out.c0 1 rfl;have c11:=HF.out.c1 1 rfl
     by_cases hxy:x=y
     ·have b0:(x !=y)=false:=by simp[hxy]
      have HE3:=h_ (HE2.out hxy);have HF9:Hid (Fr w wr.drew [[B A1 n1 c1,B (some ⟨ba,oa,none⟩) n2 c2],[B B1 n1 d1,B (some ⟨bb,ob,none⟩) n2 d2]]):=HF.out.drew;clear hxy HE2 HNE HF
      go_wp2_with (fail)
      go_region
      go_wp2_with (fail)
      exact⟨⟨i+1,by omega,by go_num,HE3,HF9⟩,by simp[intOf];omega⟩
     ·have b0:(x !=y)=true:=by simp[hxy]
      have HRF:=h_ (HNE.out hxy);clear hxy HE2 HNE
      go_wp2_with (fail)
      go_region
      go_wp2_with (fail)
      go_ret
      exact⟨by rw[HRF.out];rfl,drw HF.out.b⟩
    ·have hji2:¬(i:Int)<(n2:Int):=by omega
     have HRE:=h_ (HRT.out HE1.out (fun j hj=>HE.out j (by omega)))
     clear HE;have c01:=HF.out.c0 1 rfl
     go_wp2_with (fail)
     go_ret
     exact⟨by rw[HRE.out];rfl,HF.out.b⟩
def dsFi:Nat->Nat
 | 0=>12
 | 1=>13
 | 2=>14
 | 3=>15
 | 4=>16
 | 5=>17
 |_=>0
theorem mem_takeB{bs:List Bd}{i:Nat}{x:Bd}(hi:i<bs.length):x∈bs.take (i+1)↔x∈bs.take i\/x=bs.getD i ([],[]):=by
 rw[bQ ([],[]) hi,List.mem_append,List.mem_singleton]
def RetFi(w:j2)(bs:List Bd)(x:Bd)(e:Ending)(w':j2):Prop:=∃r:Int,e=K (.int D r)/\-1<=r/\r<=10000000/\(r<0↔¬x∈bs)/\Below w.heap.size w w'
theorem j3(S:Nat->Prop)(m:Nat)(A A1 A2:Option Addr)(n cp n1 c1 n2 c2:Nat)(bs:List Bd)(own other:List Int)(w:j2)(hx:PLs S w m A n bs)(ha1:SL w A1 n1 own)(ha2:SL w A2 n2 other)(hbs:∀b∈bs,b.1.length=n1/\b.2.length=n2)(hn1:n1<=1000)(hn2:n2<=1000)(hn:n<=10000000):
  qb ql 191 #[B A n cp,J #[B A1 n1 c1,B A2 n2 c2]] w (RetFi w bs (own,other)):=by
 have HX:=h_ hx;have HLN:=h_ hx.len
 have HA1:=h_ fun(W:j2) (hw:Below w.heap.size w W)=>ha1.below hw
 have HA2:=h_ fun(W:j2) (hw:Below w.heap.size w W)=>ha2.below hw
 have HBS:Hid (∀i,i<n->(bs.getD i ([],[])).1.length=n1/\(bs.getD i ([],[])).2.length=n2):=fun i hi=>hbs _ (ak bs _ (by rw[hx.len];exact hi))
 have HF:Hid (Fr w (w.alloc (F #[B A1 n1 c1,B A2 n2 c2] 35)) [[B A1 n1 c1,B A2 n2 c2]]):=(Fr.start w).allocT (by simp) _ _
 clear hx ha1 ha2 hbs
 go_enter Tryz.func191,Tryz.ntmps191
 go_wp2_with (fail)
 go_loopw [5] (fun v5 wr=>∃(q:Nat),q<=n/\v5= .int D q/\Hid (¬(own,other)∈bs.take q)/\Hid (Fr w wr [[B A1 n1 c1,B A2 n2 c2]])) (fun v5 _=>n-(intOf v5).toNat)
 case atStart=>exact⟨0,by omega,rfl,by simp[Hid],HF.out⟩
 case round=>
  clear HF;obtain⟨q,hin,rfl,HE,HF⟩:=hrel
  by_cases hlt:q<n
  ·have hji:(q:Int)<(n:Int):=by omega
   obtain⟨b,off,_,_,_,B1,m1,kB1,B2,m2,kB2,rfl,hbl,_,_,y1,y2,_,p1,_,p2,_⟩:=HX.out.at hlt;have HFB:=Frm.of_below HF.out.b;have HY1:=h_ (HFB.cell' y1 id);have HY2:=h_ (HFB.cell' y2 id);have hm:=HBS.out q hlt
   have HMT:Hid ((own,other)∈bs.take (q+1)↔(own,other)∈bs.take q\/(own,other)=bs.getD q ([],[])):=mem_takeB (by rw[HLN.out];exact hlt)
   have HMM:Hid (bs.getD q ([],[])∈bs):=ak bs _ (by rw[HLN.out];exact hlt)
   obtain⟨⟨o2,t2⟩,hbb⟩:∃bb,bb=bs.getD q ([],[]):=⟨_,rfl⟩;rw[<-hbb]at p1 p2 hm HMT HMM
   have e1:n1=m1:=by rw[<-p1.1.1];exact hm.1.symm
   have e2:n2=m2:=by rw[<-p2.1.1];exact hm.2.symm
   subst e1 e2
   have CS:Hid (∀W:j2,Below w.heap.size w W->qb ql 213 #[J #[B B1 n1 kB1,B B2 n2 kB2],J #[B A1 n1 c1,B A2 n2 c2]] W fun e w'=>e=K (O (decide ((o2,t2)=(own,other))))/\Below W.heap.size W w'):=fun W hw=>l05Same_any B1 B2 A1 A2 n1 kB1 n2 kB2 c1 c2 o2 t2 own other W (p1.1.below hw) (p2.1.below hw) (HA1.out W hw) (HA2.out W hw) hn1 hn2
   clear y1 y2 HFB p1 p2 hm hbb
   go_wp2_with (fail)
   refine w_ 6 (fun _=>false) dsFi [Eqv (B (some ⟨b,off,none⟩) n cp),Eqv (.int D (q:Int)),Eqv (I (some ⟨b,off+q*3,none⟩)),Eqv (I (some ⟨b,off+q*3+1,none⟩)),Eqv (J #[B B1 n1 kB1,B B2 n2 kB2]),Eqv (J #[B A1 n1 c1,B A2 n2 c2])] (by repeat (first|exact AllStb.nil|refine AllStb.cons (by first|exact a6 _|exact bp _ _ _) ?_)) (fun i o' _ hX=>by cases hX) ?_ ?_
   ·intro i o hi hX ho a' W hW hIW hfar hdep
    have e0:a'.tmps.getD 0 j1=(B (some ⟨b,off,none⟩) n cp):=(fr hfar 0).trans rfl
    have e3:a'.tmps.getD 3 j1=(I (some ⟨w.heap.size,0,none⟩)):=(fr hfar 3).trans rfl
    have e5:a'.tmps.getD 5 j1=(.int D (q:Int)):=(fr hfar 5).trans rfl
    have hi8:=i_5 hi
    clear hfar hX hi
    rcases hi8 with rfl|rfl|rfl|rfl|rfl|rfl
    all_goals (simp at ho;subst ho)
    ·refine il ?_;simp only[jz,qc,e0];go_simp
    ·refine il ?_;simp only[jz,qc,e5];go_simp
    ·have d1:a'.tmps.getD 12 j1=_:=dp hdep 0
     have d2:a'.tmps.getD 13 j1=_:=dp hdep 1
     refine il ?_;simp only[jz,qc,d1,d2];go_simp;first|done|(intro hq9;exfalso;omega)
    ·have d1:a'.tmps.getD 14 j1=_:=dp hdep 2
     refine il ?_;simp only[jz,qc,d1];go_simp
    ·have d1:a'.tmps.getD 15 j1=_:=dp hdep 3
     have y0:=(Frm.of_below hW).cell' HY1.out id;have y1:=(Frm.of_below hW).cell' HY2.out id
     refine il ?_;simp only[jz,qc,d1];go_simp
    ·have y0:=(HF.out.below hW).c0 0 rfl
     have y1:=(HF.out.below hW).c0 1 rfl
     refine il ?_;simp only[jz,qc,e3];go_simp
   intro v W2 hW hIW hg
   have g0:v 0=_:=gq hg 0
   have g1:v 1=_:=gq hg 1
   have g2:v 2=_:=gq hg 2
   have g3:v 3=_:=gq hg 3
   have g4:v 4=_:=gq hg 4
   have g5:v 5=_:=gq hg 5
   simp only[qj,qk,putV,dsFi,g0,g1,g2,g3,g4,g5,Act.put]
   clear g0 g1 g2 g3 g4 g5 hg hIW;have HF2:=h_ (HF.out.below hW);clear hW HF
   go_wp2_with (fail)
   refine(CS.out _ HF2.out.b).mono ?_
   rintro e w3 ⟨rfl,hb3⟩
   have HF3:=h_ (HF2.out.below hb3);clear hb3 HF2 CS
   by_cases hq:(o2,t2)=(own,other)
   ·have HQ:Hid ((own,other)∈bs):=by unfold Hid;rw[<-hq];exact HMM.out
    rw[decide_eq_true hq];clear hq HE HMT
    go_wp2_with (fail)
    go_ret
    exact⟨(q:Int),rfl,by omega,by omega,⟨fun h=>absurd h (by omega),fun h=>absurd HQ.out h⟩,HF3.out.b⟩
   ·have HE2:Hid (¬(own,other)∈bs.take (q+1)):=fun h=>(HMT.out.1 h).elim HE.out (fun h=>hq h.symm)
    rw[decide_eq_false hq];clear hq HE HMT
    go_wp2_with (fail)
    exact⟨⟨q+1,by omega,by go_num,HE2,HF3⟩,by simp[intOf];omega⟩
  ·have hji:¬(q:Int)<(n:Int):=by omega
   have HE2:Hid (¬(own,other)∈bs):=by
    have h:=HE.out
    rw[qi (by rw[HLN.out];omega)]at h
    exact h
   clear HE
   go_wp2_with (fail)
   go_ret
   exact⟨-1,rfl,by omega,by omega,⟨fun _=>HE2.out,fun _=>by omega⟩,HF.out.b⟩
def appH(o l i p q s t k r st bd:qa):Nat->Option qa
 | 0=>some o
 | 2=>some l
 | 3=>some i
 | 4=>some p
 | 5=>some q
 | 6=>some s
 | 8=>some t
 | 9=>some k
 | 10=>some r
 | 11=>some st
 | 14=>some bd
 |_=>none
structure JH(V:j2)(T:TypeId)(c:Nat->Option qa)(vs st:List qa)(n0:Nat)(L:Nat->Bool)(u:Nat->qa)(W:j2):Prop where
 b:Below V.heap.size V W
 k:∀i,i<17->L i=true->∀y,c i=some y->u i=y
 w7:L 7=true->L 1=true
 w10:L 13=true->L 7=true/\L 12=true
 r4:L 1=true->L 7=false->W.ownsRow V.heap.size T 4 (u 1) 0 []
 r7:L 7=true->L 13=false->W.ownsRow V.heap.size T 4 (u 7) n0 vs
 r10:L 13=true->W.ownsRow V.heap.size T 4 (u 13) (n0+1) (vs++st)
 s9:L 12=true->L 13=false->∃g,u 12=B (some ⟨g,0,none⟩) 1 1/\V.heap.size<=g/\g<W.heap.size/\(∀i,i<st.length->W.cell? ⟨g,0+i,none⟩=some (st.getD i j1))/\(L 1=true->L 7=false->(u 1).ownBlock≠some g)/\(L 7=true->(u 7).ownBlock≠some g)
section
variable {V W W':j2}{T:TypeId}{c:Nat->Option qa}{vs st:List qa}{n0 i:Nat}{L L':Nat->Bool}{u u':Nat->qa}{v:qa}
theorem JH.start(V:j2)(T:TypeId)(c:Nat->Option qa)(vs st:List qa)(n0:Nat)(u:Nat->qa):JH V T c vs st n0 (fun _=>false) u V.drew:=
 ⟨Below.drew (qg _ _),fun _ _ h=>(by cases h),fun h=>(by cases h),fun h=>(by cases h),fun h=>(by cases h),fun h=>(by cases h),fun h=>(by cases h),fun h=>(by cases h)⟩
theorem JH.pure(H:JH V T c vs st n0 L u W)(hu:Upd 17 i v L u L' u')(h1:i≠1/\i≠7/\i≠12/\i≠13)(hv:∀y,c i=some y->v=y):JH V T c vs st n0 L' u' W:=by
 obtain⟨a1,a2,a3⟩:=hu
 obtain⟨l4,u4⟩:=a3 1 (by omega) (by omega)
 obtain⟨l7,u7⟩:=a3 7 (by omega) (by omega)
 obtain⟨l9,u9⟩:=a3 12 (by omega) (by omega)
 obtain⟨l10,u10⟩:=a3 13 (by omega) (by omega)
 refine⟨H.b,fun j hj hl y hy=>?_,(by rw[l4,l7];exact H.w7),(by rw[l7,l9,l10];exact H.w10),(by rw[l4,l7,u4];exact H.r4),(by rw[l7,l10,u7];exact H.r7),(by rw[l10,u10];exact H.r10),(by rw[l9,l10,l4,l7,u4,u7,u9];exact H.s9)⟩
 by_cases e:j=i
 ·subst e;rw[a2];exact hv y hy
 ·obtain⟨lj,uj⟩:=a3 j hj e
  rw[uj];rw[lj]at hl;exact H.k j hj hl y hy
theorem JH.no10(H:JH V T c vs st n0 L u W)(h:L 7=false\/L 12=false):L 13=false:=by
 rcases h9:L 13 with _|_
 ·rfl
 ·have:=H.w10 h9
  rcases h with h|h
  ·rw[h]at this;cases this.1
  ·rw[h]at this;cases this.2
theorem JH.no7(H:JH V T c vs st n0 L u W)(h:L 1=false):L 7=false:=by
 rcases h9:L 7 with _|_
 ·rfl
 ·have:=H.w7 h9;rw[h]at this;cases this
theorem JH.keep(H:JH V T c vs st n0 L u W)(hu:Upd 17 i v L u L' u')(hc:c i=none):∀j,j<17->L' j=true->∀y,c j=some y->u' j=y:=fun j hj hl y hy=>by
 by_cases e:j=i
 ·subst e;rw[hc]at hy;cases hy
 ·obtain⟨lj,uj⟩:=hu.2.2 j hj e
  rw[uj];rw[lj]at hl;exact H.k j hj hl y hy
theorem JH.make(H:JH V T c vs st n0 L u W)(hu:Upd 17 1 v L u L' u')(h4:L 1=false)(hc:c 1=none)(ho:W'.ownsRow V.heap.size T 4 v 0 [])(hg:W.grownBy W' none)(hv:v.ownBlock=some W.heap.size):JH V T c vs st n0 L' u' W':=by
 have h7:=H.no7 h4;have h10:=H.no10 (.inl h7)
 obtain⟨l7,-⟩:=hu.2.2 7 (by omega) (by omega)
 obtain⟨l9,u9⟩:=hu.2.2 12 (by omega) (by omega)
 obtain⟨l10,-⟩:=hu.2.2 13 (by omega) (by omega)
 refine⟨H.b.grown hg H.b.size (fun x hx=>by cases hx),H.keep hu hc,fun _=>hu.1,fun h=>(by rw[l10,h10]at h;cases h),fun _ _=>(by rw[hu.2.1];exact ho),fun h=>(by rw[l7,h7]at h;cases h),fun h=>(by rw[l10,h10]at h;cases h),fun h _=>?_⟩
 rw[l9]at h;obtain⟨g,q1,q2,q3,q4,_,_⟩:=H.s9 h h10
 refine⟨g,(by rw[u9];exact q1),q2,qf q3 hg.size,fun i hi=>hg.cell (q4 i hi) (by simp),fun _ _=>?_,fun h=>(by rw[l7,h7]at h;cases h)⟩
 rw[hu.2.1,hv]
 intro e;injection e with e;omega
theorem JH.bsl(H:JH V T c vs st n0 L u W)(hu:Upd 17 12 (B (some ⟨W.heap.size,0,none⟩) 1 1) L u L' u')(h9:L 12=false)(hc:c 12=none)(T':TypeId):JH V T c vs st n0 L' u' (W.alloc (F st.toArray T')):=by
 have h10:=H.no10 (.inr h9)
 obtain⟨l4,u4⟩:=hu.2.2 1 (by omega) (by omega)
 obtain⟨l7,u7⟩:=hu.2.2 7 (by omega) (by omega)
 obtain⟨l10,-⟩:=hu.2.2 13 (by omega) (by omega)
 refine⟨H.b.alloc H.b.size _,H.keep hu hc,(by rw[l4,l7];exact H.w7),fun h=>(by rw[l10,h10]at h;cases h),fun h h'=>?_,fun h h'=>?_,fun h=>(by rw[l10,h10]at h;cases h),fun _ _=>?_⟩
 ·rw[l4]at h;rw[l7]at h';rw[u4];exact(H.r4 h h').alloc _
 ·rw[l7]at h;rw[u7];exact(H.r7 h h10).alloc _
 ·refine⟨W.heap.size,hu.2.1,H.b.size,by simp,fun i hi=>?_,fun h h' e=>?_,fun h e=>?_⟩
  ·rw[Nat.zero_add]
   exact(Cel.new W st.toArray T').cell i _ (by simp[List.getD,hi])
  ·rw[l4]at h;rw[l7]at h';rw[u4]at e
   have:=(qh (H.r4 h h') _ e).2
   omega
  ·rw[l7]at h;rw[u7]at e
   have:=(qh (H.r7 h h10) _ e).2
   omega
theorem JH.app1(H:JH V T c vs st n0 L u W)(hu:Upd 17 7 v L u L' u')(h7:L 7=false)(h4:L 1=true)(hc:c 7=none)(ho:W'.ownsRow V.heap.size T 4 v n0 vs)(hg:W.grownBy W' (u 1).ownBlock)(hat:v.ownBlock=(u 1).ownBlock\/v.ownBlock=some W.heap.size):JH V T c vs st n0 L' u' W':=by
 have h10:=H.no10 (.inl h7);have hr:=H.r4 h4 h7
 obtain⟨l4,-⟩:=hu.2.2 1 (by omega) (by omega)
 obtain⟨l9,u9⟩:=hu.2.2 12 (by omega) (by omega)
 obtain⟨l10,-⟩:=hu.2.2 13 (by omega) (by omega)
 refine⟨H.b.grown hg H.b.size (fun x hx=>(qh hr x hx).1),H.keep hu hc,fun _=>(by rw[l4];exact h4),fun h=>(by rw[l10,h10]at h;cases h),fun _ h=>(by rw[hu.1]at h;cases h),fun _ _=>(by rw[hu.2.1];exact ho),fun h=>(by rw[l10,h10]at h;cases h),fun h _=>?_⟩
 rw[l9]at h;obtain⟨g,q1,q2,q3,q4,q5,_⟩:=H.s9 h h10;have hne:=q5 h4 h7
 refine⟨g,(by rw[u9];exact q1),q2,qf q3 hg.size,fun i hi=>hg.cell (q4 i hi) (fun e=>hne e.symm),fun _ h=>(by rw[hu.1]at h;cases h),fun _ e=>?_⟩
 rw[hu.2.1]at e
 rcases hat with h'|h'
 ·rw[h']at e;exact hne e
 ·rw[h']at e;injection e with e;omega
theorem JH.app2(H:JH V T c vs st n0 L u W)(hu:Upd 17 13 v L u L' u')(h10:L 13=false)(h7:L 7=true)(h9:L 12=true)(hc:c 13=none)(ho:W'.ownsRow V.heap.size T 4 v (n0+1) (vs++st))(hg:W.grownBy W' (u 7).ownBlock):JH V T c vs st n0 L' u' W':=by
 have hr:=H.r7 h7 h10
 obtain⟨l4,-⟩:=hu.2.2 1 (by omega) (by omega)
 obtain⟨l7,-⟩:=hu.2.2 7 (by omega) (by omega)
 obtain⟨l9,-⟩:=hu.2.2 12 (by omega) (by omega)
 exact⟨H.b.grown hg H.b.size (fun x hx=>(qh hr x hx).1),H.keep hu hc,(by rw[l4,l7];exact H.w7),fun _=>⟨(by rw[l7];exact h7),(by rw[l9];exact h9)⟩,fun _ h=>(by rw[l7,h7]at h;cases h),fun _ h=>(by rw[hu.1]at h;cases h),fun _=>(by rw[hu.2.1];exact ho),fun _ h=>(by rw[hu.1]at h;cases h)⟩
theorem JH.pureAlloc(H:JH V T c vs st n0 L u W)(hu:Upd 17 i v L u L' u')(h1:i≠1/\i≠7/\i≠12/\i≠13)(hv:∀y,c i=some y->v=y)(o:Obj):JH V T c vs st n0 L' u' (W.alloc o):=by
 have H2:=H.pure hu h1 hv;have hb:Below W.heap.size W (W.alloc o):=(qg _ _).alloc (qd _) _
 refine⟨H2.b.alloc H2.b.size _,H2.k,H2.w7,H2.w10,fun h h'=>(H2.r4 h h').alloc _,fun h h'=>(H2.r7 h h').alloc _,fun h=>(H2.r10 h).alloc _,fun h h'=>?_⟩
 obtain⟨g,q1,q2,q3,q4,q5,q6⟩:=H2.s9 h h'
 exact⟨g,q1,q2,qf q3 hb.size,fun i hi=>(Frm.of_below hb).cell' (q4 i hi) id,q5,q6⟩
structure JK(V:j2)(T:TypeId)(c:Nat->Option qa)(vs st:List qa)(n0:Nat)(x1 x2:qa)(L:Nat->Bool)(u:Nat->qa)(W:j2):Prop where
 h:JH V T c vs st n0 L u W
 w15:L 15=true->L 13=true
 e15:L 15=true->u 15=J #[u 13,x1,x2]
 w16:L 16=true->L 15=true
 s16:L 16=true->∃g,u 16=B (some ⟨g,0,none⟩) 1 1/\V.heap.size<=g/\Cel W g [u 13,x1,x2]
variable {x1 x2:qa}
theorem JK.start(V:j2)(T:TypeId)(c:Nat->Option qa)(vs st:List qa)(n0:Nat)(x1 x2:qa)(u:Nat->qa):JK V T c vs st n0 x1 x2 (fun _=>false) u V.drew:=
 ⟨JH.start _ _ _ _ _ _ _,fun h=>(by cases h),fun h=>(by cases h),fun h=>(by cases h),fun h=>(by cases h)⟩
theorem JK.pure(H:JK V T c vs st n0 x1 x2 L u W)(hu:Upd 17 i v L u L' u')(h1:i≠1/\i≠7/\i≠12/\i≠13/\i≠15/\i≠16)(hv:∀y,c i=some y->v=y):JK V T c vs st n0 x1 x2 L' u' W:=by
 obtain⟨l13,u13⟩:=hu.2.2 13 (by omega) (by omega)
 obtain⟨l15,u15⟩:=hu.2.2 15 (by omega) (by omega)
 obtain⟨l16,u16⟩:=hu.2.2 16 (by omega) (by omega)
 exact⟨H.h.pure hu (by omega) hv,by(rw[l15,l13];exact H.w15),by(rw[l15,u15,u13];exact H.e15),by(rw[l16,l15];exact H.w16),by(rw[l16,u16,u13];exact H.s16)⟩
theorem JK.low(H:JK V T c vs st n0 x1 x2 L u W)(hu:Upd 17 i v L u L' u')(hi:i<15)(h13:L 13=false)(h':JH V T c vs st n0 L' u' W'):JK V T c vs st n0 x1 x2 L' u' W':=by
 obtain⟨l15,-⟩:=hu.2.2 15 (by omega) (by omega)
 obtain⟨l16,-⟩:=hu.2.2 16 (by omega) (by omega)
 have h15:L 15=false:=by
  rcases h9:L 15 with _|_
  ·rfl
  ·have:=H.w15 h9;rw[h13]at this;cases this
 have h16:L 16=false:=by
  rcases h9:L 16 with _|_
  ·rfl
  ·have:=H.w16 h9;rw[h15]at this;cases this
 exact⟨h',fun h=>(by rw[l15,h15]at h;cases h),fun h=>(by rw[l15,h15]at h;cases h),fun h=>(by rw[l16,h16]at h;cases h),fun h=>(by rw[l16,h16]at h;cases h)⟩
theorem JK.b15(H:JK V T c vs st n0 x1 x2 L u W)(hu:Upd 17 15 v L u L' u')(hc:c 15=none)(hv:v=J #[u 13,x1,x2])(h13:L 13=true)(h15:L 15=false):JK V T c vs st n0 x1 x2 L' u' W:=by
 obtain⟨l13,u13⟩:=hu.2.2 13 (by omega) (by omega)
 obtain⟨l16,-⟩:=hu.2.2 16 (by omega) (by omega)
 have h16:L 16=false:=by
  rcases h9:L 16 with _|_
  ·rfl
  ·have:=H.w16 h9;rw[h15]at this;cases this
 exact⟨H.h.pure hu (by omega) (fun y hy=>by rw[hc]at hy;cases hy),fun _=>by(rw[l13];exact h13),fun _=>by(rw[hu.2.1,hv,u13]),fun h=>(by rw[l16,h16]at h;cases h),fun h=>(by rw[l16,h16]at h;cases h)⟩
theorem JK.b16(H:JK V T c vs st n0 x1 x2 L u W)(hu:Upd 17 16 (B (some ⟨W.heap.size,0,none⟩) 1 1) L u L' u')(hc:c 16=none)(h15:L 15=true)(T':TypeId):JK V T c vs st n0 x1 x2 L' u' (W.alloc (F #[u 13,x1,x2] T')):=by
 obtain⟨l13,u13⟩:=hu.2.2 13 (by omega) (by omega)
 obtain⟨l15,u15⟩:=hu.2.2 15 (by omega) (by omega)
 refine⟨H.h.pureAlloc hu (by omega) (fun y hy=>by rw[hc]at hy;cases hy) _,by(rw[l15,l13];exact H.w15),by(rw[l15,u15,u13];exact H.e15),fun _=>by(rw[l15];exact h15),fun _=>⟨W.heap.size,hu.2.1,H.h.b.size,?_⟩⟩
 rw[u13]
 exact Cel.new W #[u 13,x1,x2] T'
end
def AlcD(lo:Nat)(T:TypeId)(cs:List qa):RP:=fun v W=>∃g,v=I (some ⟨g,0,none⟩)/\lo<=g/\Cel W g cs/\∃cur,W.heap[g]? =some (F cur T (0,0))
theorem bp(lo:Nat)(T:TypeId)(cs:List qa):Stb (AlcD lo T cs):=fun _ _ _ ⟨g,h1,h2,h3,cur,h4⟩ hb=>⟨g,h1,h2,h3.below hb,cur,(hb.block g h3.lt).trans h4⟩
theorem js{lo:Nat}(W:j2)(cs:Array qa)(T:TypeId)(h:lo<=W.heap.size):AlcD lo T cs.toList (I (some ⟨W.heap.size,0,none⟩)) (W.alloc (F cs T)):=⟨_,rfl,h,Cel.new W cs T,cs,heap_alloc_new W _⟩
theorem own_ne{W:j2}{base:Nat}{e T:TypeId}{v:qa}{xs:List Int}{g:Nat}(ho:OwnS W base e v xs)(h:∃cur,W.heap[g]? =some (F cur T (0,0)))(hT:e≠T):∀k,v.ownBlock=some k->k≠g:=by
 intro k hk he
 subst he;obtain⟨cur',h⟩:=h;obtain⟨_,h4⟩:=ho
 rcases h4 with⟨h4,_⟩|⟨g,cap,cur,h4,_,h5,_⟩
 ·rw[h4]at hk;cases hk
 ·rw[h4]at hk
  simp[Value.ownBlock]at hk
  subst hk;rw[h]at h5;injection h5 with h5;injection h5 with _ h6
  exact hT h6.symm
def BdQ(lo:Nat)(b:Bd):RP:=fun v W=>∃g1 k1 g2 k2,v=J #[B (some ⟨g1,0,none⟩) b.1.length k1,B (some ⟨g2,0,none⟩) b.2.length k2]/\OwnS W lo 2 (B (some ⟨g1,0,none⟩) b.1.length k1) b.1/\OwnS W lo 2 (B (some ⟨g2,0,none⟩) b.2.length k2) b.2
theorem stb_bdQ(lo:Nat)(b:Bd):Stb (BdQ lo b):=fun _ _ _ ⟨g1,k1,g2,k2,h1,h2,h3⟩ hb=>⟨g1,k1,g2,k2,h1,own_below h2 hb,own_below h3 hb⟩
open Go.RowKit Pl Ps
def StR(lo die:Nat)(l:List Stp):RP:=fun v W=>∃A c,v=B A l.length c/\SLZ 4 (fun k=>k<lo) W A l.length (stCs die l)/\l.length<=c
theorem stb_stR(lo die:Nat)(l:List Stp):Stb (StR lo die l):=fun _ _ _ ⟨A,c,h1,h2,h3⟩ hb=>⟨A,c,h1,h2.frm (Frm.of_below' _ hb),h3⟩
theorem StR.of{lo base die:Nat}{l:List Stp}{v:qa}{W:j2}(h:W.ownsRow base 242 4 v l.length (stCs die l))(hb:lo<=base):StR lo die l v W:=
 aY (S:=fun k=>k<lo) h (fun k hk h9=>by have:=(qh h k hk).1;omega) (by omega)
def dsN5:Nat->Nat
 | 0=>19
 | 1=>20
 | 2=>21
 | 3=>22
 | 4=>23
 | 5=>24
 | 6=>25
 | 7=>26
 |_=>0
def dsN9:Nat->Nat
 | 0=>33
 | 1=>34
 | 2=>35
 | 3=>36
 | 4=>37
 | 5=>38
 | 6=>39
 | 7=>40
 | 8=>41
 | 9=>42
 | 10=>43
 | 11=>11
 |_=>0
theorem l05Next_any(P h die C m:Nat)(c s:Int)(A:Option Addr)(n cp:Nat)(bs:List Bd)(w:j2)(hx:PLs (fun _=>False) w m A n bs)(hsd:∀b∈bs,Sd P C b)(hC:C<=255)(hP:P<=900)(hd1:1<=die)(hd2:die<=1000)(hh:h<=1000)(hnP:n*(P+1)<=1000000)(hm:m<=1000):
  qb ql 212 #[(J #[.int D (P:Int),.int D c,.int D (h:Int),.int D s]),B A n cp,.int D (die:Int)] w (RetPl w (m+1) (nextB P h die bs)):=by
 obtain⟨i0,hi,iz0,iz1,iz2⟩:=info_parts Tryz.infoSt;obtain⟨j0,hj,jz0,jz1,jz2⟩:=info_parts Tryz.infoPl;have hn6:n<=1000000:=qe (Nat.le_mul_of_pos_right n (Nat.succ_pos P)) hnP;have HX:=h_ hx;have HLN:=h_ hx.len
 have HSD:Hid (∀i,i<n->Sd P C (bs.getD i ([],[]))/\bs.getD i ([],[])∈bs):=fun i hi=>by
  have h1:=ak bs ([],[]) (k:=i) (by rw[hx.len];exact hi)
  exact⟨hsd _ h1,h1⟩
 have HSF:Hid (∀i,∀x∈nextF P h die [] (bs.take i),Sd P C x):=fun i=>lY hd1 (fun b hb=>hsd b (List.mem_of_mem_take hb)) (fun x hx=>by cases hx)
 have HSUB:Hid (∀i,i<=n->(nextF P h die [] (bs.take i)).length<=1000000):=fun i hi=>by
  have h1:=dr (p:=P) (h:=h) (die:=die) (k:=P+1) (bs:=bs.take i) (out:=[]) (fun _ _=>cR)
  have h2:(bs.take i).length<=n:=by rw[List.length_take,hx.len];omega
  have h3:=Nat.mul_le_mul_right (P+1) h2
  simp only[List.length_nil,Nat.zero_add]at h1
  omega
 have HF:Hid (Fr w ((w.alloc (F #[.int D (P:Int),.int D c,.int D (h:Int),.int D s] 33)).alloc (F #[] 85)) [[.int D (P:Int),.int D c,.int D (h:Int),.int D s]]):=((Fr.start w).allocT (by simp) _ _).alloc _
 have HO0:Hid (OPl (fun k=>k<w.heap.size+1) ((w.alloc (F #[.int D (P:Int),.int D c,.int D (h:Int),.int D s] 33)).alloc (F #[] 85)) (m+1) (w.heap.size+1) 85 (B (some ⟨w.heap.size+1,0,none⟩) 0 0) (nextF P h die [] (bs.take 0))):=by
  have h9:=OPl.made (S:=fun k=>k<w.heap.size+1) (m:=m+1) (base:=w.heap.size+1) (e:=85) (cs:=[]) (bs:=[]) (w.alloc (F #[.int D (P:Int),.int D c,.int D (h:Int),.int D s] 33)) (by simp) (fun k hk h9=>by have h9:k<w.heap.size+1:=h9;omega) (PEs.nil_ _ _ _) (by simp[maxLen])
  rw[show(w.alloc (F #[.int D (P:Int),.int D c,.int D (h:Int),.int D s] 33)).heap.size=w.heap.size+1 by simp]at h9
  exact h9
 have HZ0:Hid (w.heap.size+2<=((w.alloc (F #[.int D (P:Int),.int D c,.int D (h:Int),.int D s] 33)).alloc (F #[] 85)).heap.size):=by unfold Hid;simp
 clear hx hsd
 go_enter Tryz.func212,Tryz.ntmps212
 go_wp2_with (fail)
 go_loopw [7,8] (fun v7 v8 wr=>∃(q:Nat),q<=n/\v8= .int D q/\(∃vx,vx=v7/\Hid (OPl (fun k=>k<w.heap.size+1) wr (m+1) (w.heap.size+1) 85 vx (nextF P h die [] (bs.take q))))/\Hid (w.heap.size+2<=wr.heap.size)/\Hid (Fr w wr [[.int D (P:Int),.int D c,.int D (h:Int),.int D s]])) (fun _ v8 _=>n-(intOf v8).toNat)
 case atStart=>exact⟨0,by omega,rfl,⟨_,rfl,HO0.out⟩,HZ0.out,HF.out⟩
 case round=>
  clear HF HO0 HZ0;obtain⟨q,hin,rfl,⟨vx,rfl,HO⟩,HZ,HF⟩:=hrel
  by_cases hlt:q<n
  ·have hki:(q:Int)<(n:Int):=by omega
   obtain⟨b,off,A0,n0,c0,A1,n1,c1,A2,n2,c2,hA,-,_,y0,y1,y2,⟨vs,q0,-,q2,q3⟩,p1,-,p2,-⟩:=HX.out.at hlt;have HFB:=Frm.of_below HF.out.b;have HY1:=h_ (HFB.cell' y1 id);have HY2:=h_ (HFB.cell' y2 id);have HYY:Hid (w.cell? ⟨b,off+q*3,none⟩=some (B A0 n0 c0)/\w.cell? ⟨b,off+q*3+1,none⟩=some (B A1 n1 c1)/\w.cell? ⟨b,off+q*3+2,none⟩=some (B A2 n2 c2)):=⟨y0,y1,y2⟩
   have HNF:Hid (nextF P h die [] (bs.take (q+1))=nextI P (bs.getD q ([],[])) (nextF P h die [] (bs.take q)) (legal P h (bs.getD q ([],[])) die)):=kT (by rw[HLN.out];exact hlt)
   have HSDi:=h_ (HSD.out q hlt).1;obtain⟨⟨own,other⟩,hbb⟩:∃bb,bb=bs.getD q ([],[]):=⟨_,rfl⟩;rw[<-hbb]at p1 p2 HNF HSDi;clear hbb y0 y1 y2 HFB;subst hA
   have HQS:Hid (SLZ 4 (fun _=>False) w A0 n0 vs/\n0<=m/\∀x∈vs,x.oneCell'=true):=⟨q0,q2,q3⟩
   have HL1:Hid (n1=P+1):=by have:=p1.1.1;have:=HSDi.out.len1;unfold Hid;simp at *;omega
   have HL2:Hid (n2=P+1):=by have:=p2.1.1;have:=HSDi.out.len2;unfold Hid;simp at *;omega
   have HP1:Hid (∀W:j2,Below w.heap.size w W->SL W A1 n1 own):=fun W hw=>p1.1.below hw
   have HP2:Hid (∀W:j2,Below w.heap.size w W->SL W A2 n2 other):=fun W hw=>p2.1.below hw
   have hn0:n0<=1000:=by omega
   have CLS:Hid (∀W:j2,Below w.heap.size w W->qb ql 226 #[(J #[.int D (P:Int),.int D c,.int D (h:Int),.int D s]),(J #[B A1 n1 c1,B A2 n2 c2]),.int D (die:Int)] W (RetSt W die (legal P h (own,other) die))):=fun W hw=>by
    have hsd:=HSDi.out
    exact l04Legal_any P h die c s A1 A2 n1 c1 n2 c2 own other W (HP1.out W hw) (HP2.out W hw) HL1.out HL2.out (by omega) hd1 hd2 hh hsd.1.2.1 hsd.2.2.1 (by have:=hsd.1.2.2;simp at this;omega) (by have:=hsd.2.2.2;simp at this;omega)
   have hgz:w.heap.size+2<=wr.heap.size:=HZ.out;clear q0 q2 q3 p1 p2 HZ
   go_wp2_with (fail)
   refine w_ 8 (fun _=>false) dsN5 [Eqv (J #[.int D (P:Int),.int D c,.int D (h:Int),.int D s]),Eqv (B (some ⟨b,off,none⟩) n cp),Eqv (.int D (q:Int)),Eqv (I (some ⟨b,off+q*3,none⟩)),Eqv (I (some ⟨b,off+q*3+1,none⟩)),Eqv (J #[B A1 n1 c1,B A2 n2 c2]),Eqv (.int D (die:Int)),StR wr.heap.size die (legal P h (own,other) die)] (by repeat (first|exact AllStb.nil|refine AllStb.cons (by first|exact a6 _|exact stb_stR _ _ _) ?_)) (fun i o' _ hX=>by cases hX) ?_ ?_
   ·intro i o hi hX ho a' W hW hIW hfar hdep
    have e1:a'.tmps.getD 1 j1=(B (some ⟨b,off,none⟩) n cp):=(fr hfar 1).trans rfl
    have e2:a'.tmps.getD 2 j1=(.int D (die:Int)):=(fr hfar 2).trans rfl
    have e3:a'.tmps.getD 3 j1=(I (some ⟨w.heap.size,0,none⟩)):=(fr hfar 3).trans rfl
    have e8:a'.tmps.getD 8 j1=(.int D (q:Int)):=(fr hfar 8).trans rfl
    have hi8:=i_7 hi
    clear hfar hX hi
    rcases hi8 with rfl|rfl|rfl|rfl|rfl|rfl|rfl|rfl
    all_goals (simp at ho;subst ho)
    ·have y0:=(HF.out.below hW).c0 0 rfl
     have y1:=(HF.out.below hW).c0 1 rfl;have y2:=(HF.out.below hW).c0 2 rfl;have y3:=(HF.out.below hW).c0 3 rfl
     refine il ?_;simp only[jz,qc,e3];go_simp
    ·refine il ?_;simp only[jz,qc,e1];go_simp
    ·refine il ?_;simp only[jz,qc,e8];go_simp
    ·have d1:a'.tmps.getD 20 j1=_:=dp hdep 1
     have d2:a'.tmps.getD 21 j1=_:=dp hdep 2
     refine il ?_;simp only[jz,qc,d1,d2];go_simp;first|done|(intro hq9;exfalso;omega)
    ·have d1:a'.tmps.getD 22 j1=_:=dp hdep 3
     refine il ?_;simp only[jz,qc,d1];go_simp
    ·have d1:a'.tmps.getD 23 j1=_:=dp hdep 4
     have y0:=(Frm.of_below hW).cell' HY1.out id;have y1:=(Frm.of_below hW).cell' HY2.out id
     refine il ?_;simp only[jz,qc,d1];go_simp
    ·refine il ?_;simp only[jz,qc,e2];go_simp
    ·have d1:a'.tmps.getD 19 j1=_:=dp hdep 0
     have d2:a'.tmps.getD 24 j1=_:=dp hdep 5
     have d3:a'.tmps.getD 25 j1=_:=dp hdep 6
     refine .inr ⟨226,#[(J #[.int D (P:Int),.int D c,.int D (h:Int),.int D s]),(J #[B A1 n1 c1,B A2 n2 c2]),(.int D (die:Int))],by simp only[jz,qc,d1,d2,d3];go_simp,?_⟩
     refine(CLS.out W (HF.out.below hW).b).mono ?_
     rintro e W' ⟨v9,rfl,hst9,hb'⟩
     exact⟨_,rfl,hb',trivial,StR.of hst9 (Below.size hW)⟩
   intro v w2 hW hIW hg
   have g0:v 0=_:=gq hg 0
   have g1:v 1=_:=gq hg 1
   have g2:v 2=_:=gq hg 2
   have g3:v 3=_:=gq hg 3
   have g4:v 4=_:=gq hg 4
   have g5:v 5=_:=gq hg 5
   have g6:v 6=_:=gq hg 6
   obtain⟨A9,c9,g7,hr9,hc9⟩:StR wr.heap.size die (legal P h (own,other) die) (v 7) w2:=hg 7 (by omega)
   simp only[qj,qk,putV,dsN5,g0,g1,g2,g3,g4,g5,g6,g7,Act.put]
   clear g0 g1 g2 g3 g4 g5 g6 g7 hg hIW;have hz2:wr.heap.size<=w2.heap.size:=hW.size;have HF2:=h_ (HF.out.below hW);have HBw2:=h_ hW
   have HO2:Hid (OPl (fun k=>k<w.heap.size+1\/(wr.heap.size<=k/\k<w2.heap.size)) w2 (m+1) (w.heap.size+1) 85 vx (nextF P h die [] (bs.take q))):=(HO.out.wide (fun k hk=>hk.imp id (fun h=>h.1))).below hW
   have HR9:Hid (SLZ 4 (fun k=>w.heap.size+1<=k/\k<wr.heap.size) w2 A9 (legal P h (own,other) die).length (stCs die (legal P h (own,other) die))):=hr9.set fun k hk=>.inl hk.2
   clear hr9 HO CLS HF hW HY1 HY2;generalize hL:legal P h (own,other) die=L at *;have HL:=h_ hL;have HOL:=h_ (HSUB.out q hin);have HOS:=h_ (HSF.out q);generalize hOUT:nextF P h die [] (bs.take q)=OUT at *
   have hLl:L.length<=P+1:=by rw[<-hL];exact cR
   clear hL hOUT;obtain⟨wo,rfl⟩:∃wo:j2,wo=wr:=⟨_,rfl⟩
   go_wp2_with (fail)
   go_loopw [7,10] (fun v7 v10 wr=>∃(t:Nat),t<=L.length/\v10= .int D t/\(∃vy,vy=v7/\Hid (OPl (fun k=>k<w.heap.size+1\/(wo.heap.size<=k/\k<w2.heap.size)) wr (m+1) (w.heap.size+1) 85 vy (nextI P (own,other) OUT (L.take t))))/\Hid (Frm (fun k=>w.heap.size+1<=k/\k<wo.heap.size) w2 wr)) (fun _ v10 _=>L.length-(intOf v10).toNat)
   case atStart=>exact⟨0,by omega,rfl,⟨_,rfl,HO2.out⟩,Frm.refl _ _⟩
   case round=>
    clear HO2;obtain⟨t,hkL,rfl,⟨vy,rfl,HO⟩,HFX⟩:=hrel
    have HBi:Hid (Below w.heap.size w wr):=HF2.out.b.trans (HFX.out.below HF2.out.b.size (fun k hk=>by omega))
    have hzi:w2.heap.size<=wr.heap.size:=HFX.out.size
    have HF:Hid (Fr w wr [[.int D (P:Int),.int D c,.int D (h:Int),.int D s]]):=HF2.out.frm HFX.out (fun k hk=>by omega) (fun k hk=>by simp;omega)
    by_cases hlt2:t<L.length
    ·have hkj:(t:Int)<(L.length:Int):=by omega
     obtain⟨src,hsrc,hst,_⟩:=jW (p:=P) (h:=h) (b:=(own,other)) (die:=die) (s:=L.getD t ⟨0,0,false⟩) (by rw[HL.out];exact ak L _ hlt2)
     have HNI:Hid (nextI P (own,other) OUT (L.take (t+1))=addN (nextI P (own,other) OUT (L.take t)) (aT P (own,other) (L.getD t ⟨0,0,false⟩))):=kS hlt2;have HAS:Hid (Sd P C (aT P (own,other) (L.getD t ⟨0,0,false⟩))):=mF HSDi.out hst hsrc hd1
     have HNS:Hid (∀x∈nextI P (own,other) OUT (L.take t),Sd P C x):=lX HSDi.out hd1 (fun s hs=>by rw[HL.out];exact List.mem_of_mem_take hs) HOS.out
     obtain⟨e1,e2,e3,e4⟩:=lL die L t hlt2
     obtain⟨b9,o9,hA9,-,hs9,hcell⟩:=HR9.out.2 (by omega)
     have x0:=HFX.out.cell' (hcell (t*4) (by omega)) hs9
     have x1:=HFX.out.cell' (hcell (t*4+1) (by omega)) hs9
     have x2:=HFX.out.cell' (hcell (t*4+2) (by omega)) hs9
     have x3:=HFX.out.cell' (hcell (t*4+3) (by omega)) hs9
     rw[e1]at x0;rw[e2]at x1;rw[e3]at x2;rw[e4]at x3;rw[<-Nat.add_assoc]at x1 x2 x3;obtain⟨st,hst9⟩:∃st,st=L.getD t ⟨0,0,false⟩:=⟨_,rfl⟩;rw[<-hst9]at hst HNI HAS x0 x1 x3
     have CAS:Hid (∀W:j2,Below w.heap.size w W->qb ql 227 #[(J #[.int D (P:Int),.int D c,.int D (h:Int),.int D s]),(J #[B A1 n1 c1,B A2 n2 c2]),stVal st die] W (RetBq W (aT P (own,other) st).1 (aT P (own,other) st).2)):=fun W hw=>
      l04Apply_any P src die h st c h s C A1 A2 n1 c1 n2 c2 own other W (HP1.out W hw) (HP2.out W hw) HSDi.out (by omega) hP hsrc hd1 hst
     obtain⟨nx,hnx⟩:∃nx,nx=aT P (own,other) st:=⟨_,rfl⟩;rw[<-hnx]at CAS HNI HAS;obtain⟨ss,sd,sh⟩:=st;have CAS2:Hid (∀W:j2,Below w.heap.size w W->qb ql 227 #[(J #[.int D (P:Int),.int D c,.int D (h:Int),.int D s]),(J #[B A1 n1 c1,B A2 n2 c2]),(J #[.int D (ss:Int),.int D sd,.int D (die:Int),O sh])] W (RetBq W nx.1 nx.2)):=CAS.out
     simp only at x0 x1 x2 x3
     have HX0:=h_ x0;have HX1:=h_ x1;have HX2:=h_ x2;have HX3:=h_ x3;have HFi:=Frm.of_below HBi.out;have HY1:=h_ (HFi.cell' HYY.out.2.1 id);have HY2:=h_ (HFi.cell' HYY.out.2.2 id);subst hA9;clear e1 e2 e3 e4 hcell hst hst9 hnx CAS HL x0 x1 x2 x3 HFi
     go_wp2_with (fail)
     refine w_ 12 (fun _=>false) dsN9 [Eqv (J #[.int D (P:Int),.int D c,.int D (h:Int),.int D s]),Eqv (B (some ⟨b,off,none⟩) n cp),Eqv (.int D (q:Int)),Eqv (I (some ⟨b,off+q*3,none⟩)),Eqv (I (some ⟨b,off+q*3+1,none⟩)),Eqv (J #[B A1 n1 c1,B A2 n2 c2]),Eqv (B (some ⟨b9,o9,none⟩) L.length c9),Eqv (.int D (t:Int)),Eqv (I (some ⟨b9,o9+t*4,none⟩)),Eqv (J #[.int D (ss:Int),.int D sd,.int D (die:Int),O sh]),BdQ wr.heap.size nx,AlcD wr.heap.size 35 [B none 0 0,B none 0 0]] (by repeat (first|exact AllStb.nil|refine AllStb.cons (by first|exact a6 _|exact stb_bdQ _ _|exact bp _ _ _) ?_)) (fun i o' _ hX=>by cases hX) ?_ ?_
     ·intro i o hi hX ho a' W hW hIW hfar hdep
      have e1:a'.tmps.getD 1 j1=(B (some ⟨b,off,none⟩) n cp):=(fr hfar 1).trans rfl
      have e3:a'.tmps.getD 3 j1=(I (some ⟨w.heap.size,0,none⟩)):=(fr hfar 3).trans rfl
      have e8:a'.tmps.getD 8 j1=(.int D (q:Int)):=(fr hfar 8).trans rfl
      have e9:a'.tmps.getD 9 j1=(B (some ⟨b9,o9,none⟩) L.length c9):=(fr hfar 9).trans rfl
      have e10:a'.tmps.getD 10 j1=(.int D (t:Int)):=(fr hfar 10).trans rfl
      have hi8:=i_11 hi
      clear hfar hX hi
      rcases hi8 with rfl|rfl|rfl|rfl|rfl|rfl|rfl|rfl|rfl|rfl|rfl|rfl
      all_goals (simp at ho;subst ho)
      ·have y0:=(HF.out.below hW).c0 0 rfl
       have y1:=(HF.out.below hW).c0 1 rfl;have y2:=(HF.out.below hW).c0 2 rfl;have y3:=(HF.out.below hW).c0 3 rfl
       refine il ?_;simp only[jz,qc,e3];go_simp
      ·refine il ?_;simp only[jz,qc,e1];go_simp
      ·refine il ?_;simp only[jz,qc,e8];go_simp
      ·have d1:a'.tmps.getD 34 j1=_:=dp hdep 1
       have d2:a'.tmps.getD 35 j1=_:=dp hdep 2
       refine il ?_;simp only[jz,qc,d1,d2];go_simp;first|done|(intro hq9;exfalso;omega)
      ·have d1:a'.tmps.getD 36 j1=_:=dp hdep 3
       refine il ?_;simp only[jz,qc,d1];go_simp
      ·have d1:a'.tmps.getD 37 j1=_:=dp hdep 4
       have y0:=(Frm.of_below hW).cell' HY1.out id;have y1:=(Frm.of_below hW).cell' HY2.out id
       refine il ?_;simp only[jz,qc,d1];go_simp
      ·refine il ?_;simp only[jz,qc,e9];go_simp
      ·refine il ?_;simp only[jz,qc,e10];go_simp
      ·have d1:a'.tmps.getD 39 j1=_:=dp hdep 6
       have d2:a'.tmps.getD 40 j1=_:=dp hdep 7
       refine il ?_;simp only[jz,qc,d1,d2];go_simp;first|done|(intro hq9;exfalso;omega)
      ·have d1:a'.tmps.getD 41 j1=_:=dp hdep 8
       have y0:=(Frm.of_below hW).cell' HX0.out id;have y1:=(Frm.of_below hW).cell' HX1.out id;have y2:=(Frm.of_below hW).cell' HX2.out id;have y3:=(Frm.of_below hW).cell' HX3.out id
       refine il ?_;simp only[jz,qc,d1];go_simp
      ·have d1:a'.tmps.getD 33 j1=_:=dp hdep 0
       have d2:a'.tmps.getD 38 j1=_:=dp hdep 5
       have d3:a'.tmps.getD 42 j1=_:=dp hdep 9
       refine .inr ⟨227,#[(J #[.int D (P:Int),.int D c,.int D (h:Int),.int D s]),(J #[B A1 n1 c1,B A2 n2 c2]),(J #[.int D (ss:Int),.int D sd,.int D (die:Int),O sh])],by simp only[jz,qc,d1,d2,d3];go_simp,?_⟩
       refine(CAS2.out W (HF.out.below hW).b).mono ?_
       rintro e W' ⟨ga,k1,gb,k2,rfl,hg1,hg2,_,hb'⟩
       exact⟨_,rfl,hb',trivial,ga,k1,gb,k2,rfl,aB hg1 (Below.size hW),aB hg2 (Below.size hW)⟩
      ·exact .inl ⟨I (some ⟨W.heap.size,0,none⟩),W.alloc (F #[B none 0 0,B none 0 0] 35),by kernel_rfl,Bel.alloc _ _,trivial,js _ _ _ (Below.size hW)⟩
     intro v w3 hW hIW hg
     have g0:v 0=_:=gq hg 0
     have g1:v 1=_:=gq hg 1
     have g2:v 2=_:=gq hg 2
     have g3:v 3=_:=gq hg 3
     have g4:v 4=_:=gq hg 4
     have g5:v 5=_:=gq hg 5
     have g6:v 6=_:=gq hg 6
     have g7:v 7=_:=gq hg 7
     have g8:v 8=_:=gq hg 8
     have g9:v 9=_:=gq hg 9
     obtain⟨ga,k1,gb,k2,g10,hg1,hg2⟩:BdQ wr.heap.size nx (v 10) w3:=hg 10 (by omega)
     obtain⟨gx,g11,glgx,hAx,htyx⟩:AlcD wr.heap.size 35 [B none 0 0,B none 0 0] (v 11) w3:=hg 11 (by omega)
     simp only[qj,qk,putV,dsN9,g0,g1,g2,g3,g4,g5,g6,g7,g8,g9,g10,g11,Act.put]
     clear g0 g1 g2 g3 g4 g5 g6 g7 g8 g9 g10 g11 hg hIW;have HB3:=h_ hW
     have N1:=own_ne hg1 htyx (by decide)
     have N2:=own_ne hg2 htyx (by decide)
     have a0:=hAx.cell 0 _ rfl;have a1:=hAx.cell 1 _ rfl;have f0:=hAx.froz 0 _ rfl;have f1:=hAx.froz 1 _ rfl;have hgx9:ga≠gx/\gb≠gx:=⟨N1 ga rfl,N2 gb rfl⟩;have HG1:=h_ hg1;have HG2:=h_ hg2;have HVY:=h_ HO.out.lt;have HAX:=h_ hAx;clear hg1 hg2 hAx htyx N1 N2 hW HY1 HY2 CAS2 HF
     go_wp2_with (fail)
     obtain⟨V,hV⟩:∃V,V=(w3.setCell ⟨gx,0,none⟩ (B (some ⟨ga,0,none⟩) nx.1.length k1)).setCell ⟨gx,1,none⟩ (B (some ⟨gb,0,none⟩) nx.2.length k2):=⟨_,rfl⟩;rw[<-hV]
     have HBV:Hid (Below wr.heap.size wr V):=by rw[hV];exact stw (stw HB3.out (by omega)) (by omega)
     have HCV:Hid (Cel V gx [(B (some ⟨ga,0,none⟩) nx.1.length k1),(B (some ⟨gb,0,none⟩) nx.2.length k2)]):=by rw[hV];exact(HAX.out.st (i:=0) (v:=(B (some ⟨ga,0,none⟩) nx.1.length k1)) (by simp)).st (i:=1) (v:=(B (some ⟨gb,0,none⟩) nx.2.length k2)) (by simp)
     have HGV1:Hid (OwnS V wr.heap.size 2 (B (some ⟨ga,0,none⟩) nx.1.length k1) nx.1):=by rw[hV];exact OwnS.apart (OwnS.apart HG1.out (ob_ne hgx9.1) _) (ob_ne hgx9.1) _
     have HGV2:Hid (OwnS V wr.heap.size 2 (B (some ⟨gb,0,none⟩) nx.2.length k2) nx.2):=by rw[hV];exact OwnS.apart (OwnS.apart HG2.out (ob_ne hgx9.2) _) (ob_ne hgx9.2) _
     have hzV:wr.heap.size<=V.heap.size:=HBV.out.size;clear hV HAX HG1 HG2 a0 a1 f0 f1 HB3 hgx9
     have HKL:Hid ((nextI P (own,other) OUT (L.take t)).length<=1001000):=by
      have h1:=gU (p:=P) (b:=(own,other)) (l:=L.take t) (out:=OUT)
      have h2:(L.take t).length<=L.length:=by rw[List.length_take];omega
      have:=HOL.out
      unfold Hid;omega
     have CF:Hid (qb ql 191 #[vy,J #[(B (some ⟨ga,0,none⟩) nx.1.length k1),(B (some ⟨gb,0,none⟩) nx.2.length k2)]] V (RetFi V (nextI P (own,other) OUT (L.take t)) nx)):=by
      obtain⟨Ay,cy,hvy,hpy,-⟩:=(HO.out.below HBV.out).read;rw[hvy]
      exact j3 _ (m+1) Ay (some ⟨ga,0,none⟩) (some ⟨gb,0,none⟩) _ cy nx.1.length k1 nx.2.length k2 _ nx.1 nx.2 V hpy (HGV1.out.sl rfl).1 (HGV2.out.sl rfl).1 (fun x hx=>⟨by rw[(HNS.out x hx).len1,HAS.out.len1],by rw[(HNS.out x hx).len2,HAS.out.len2]⟩) (by rw[HAS.out.len1];omega) (by rw[HAS.out.len2];omega) (by have:=HKL.out;omega)
     refine CF.out.mono ?_
     rintro e w4 ⟨r,rfl,hr1,hr2,hr3,hb4⟩
     have HB4:Hid (Below wr.heap.size wr w4):=HBV.out.trans (hb4.mono hzV);have HO4:=h_ (HO.out.below HB4.out)
     have HFX4:Hid (Frm (fun k=>w.heap.size+1<=k/\k<wo.heap.size) w2 w4):=HFX.out.trans (Frm.of_below' _ HB4.out)
     by_cases hin2:nx∈nextI P (own,other) OUT (L.take t)
     ·have HE:Hid (nextI P (own,other) OUT (L.take (t+1))=nextI P (own,other) OUT (L.take t)):=by unfold Hid;rw[HNI.out,mK hin2]
      have hr:¬r<0:=fun h=>hr3.1 h hin2
      clear hin2 hr3 CF hb4 HBV HCV HGV1 HGV2 HO HFX HNI
      go_wp2_with (fail)
      exact⟨⟨t+1,by omega,by go_num,⟨vy,rfl,by rw[HE.out];exact HO4.out⟩,HFX4.out⟩,by simp[intOf];omega⟩
     ·have HE:Hid (nextI P (own,other) OUT (L.take (t+1))=nextI P (own,other) OUT (L.take t)++[nx]):=by unfold Hid;rw[HNI.out,jt hin2]
      have hr:r<0:=hr3.2 hin2;have HBw4:Hid (Below w.heap.size w w4):=HBi.out.trans (HB4.out.mono HBi.out.size);have HY0w:=h_ ((Frm.of_below HBw4.out).cell' HYY.out.1 id);have HX0w:=h_ ((Frm.of_below HB4.out).cell' HX0.out id);have HX1w:=h_ ((Frm.of_below HB4.out).cell' HX1.out id);have HX2w:=h_ ((Frm.of_below HB4.out).cell' HX2.out id);have HX3w:=h_ ((Frm.of_below HB4.out).cell' HX3.out id);have HCw:=h_ (HCV.out.below hb4);have HG1:Hid (OwnS w4 wr.heap.size 2 (B (some ⟨ga,0,none⟩) nx.1.length k1) nx.1):=own_below HGV1.out hb4;have HG2:Hid (OwnS w4 wr.heap.size 2 (B (some ⟨gb,0,none⟩) nx.2.length k2) nx.2):=own_below HGV2.out hb4;have hz4:V.heap.size<=w4.heap.size:=hb4.size;clear hin2 hr3 CF hb4 HBV HCV HGV1 HGV2 HO HFX HNI HX0 HX1 HX2 HX3 HB4
      go_wp2_with (fail)
      clear hr
      refine gB 17 (fun _=>false) (fun i=>i+48) (JK w4 242 (appH vy (B (some ⟨b,off,none⟩) n cp) (.int D (q:Int)) (I (some ⟨b,off+q*3,none⟩)) (I (some ⟨b,off+q*3,none⟩)) (B A0 n0 c0) (B (some ⟨b9,o9,none⟩) L.length c9) (.int D (t:Int)) (I (some ⟨b9,o9+t*4,none⟩)) (J #[.int D (ss:Int),.int D sd,.int D (die:Int),O sh]) (J #[B (some ⟨ga,0,none⟩) nx.1.length k1,B (some ⟨gb,0,none⟩) nx.2.length k2])) vs [.int D (ss:Int),.int D sd,.int D (die:Int),O sh] n0 (B (some ⟨ga,0,none⟩) nx.1.length k1) (B (some ⟨gb,0,none⟩) nx.2.length k2)) (by kernel_rfl) (by kernel_rfl) (fun _ _ _ _ _ h=>h) (fun vs'=>JK.start _ _ _ _ _ _ _ _ _) (fun i o' _ hX=>by cases hX) ?_ ?_
      ·intro i o hi9 _ ho L9 a' W HJ hLi hfar hdep
       have e1:a'.tmps.getD 1 j1=(B (some ⟨b,off,none⟩) n cp):=(hfar 1 (fun j _=>by omega)).trans rfl
       have e7:a'.tmps.getD 7 j1=vy:=(hfar 7 (fun j _=>by omega)).trans rfl
       have e8:a'.tmps.getD 8 j1=(.int D (q:Int)):=(hfar 8 (fun j _=>by omega)).trans rfl
       have e9:a'.tmps.getD 9 j1=(B (some ⟨b9,o9,none⟩) L.length c9):=(hfar 9 (fun j _=>by omega)).trans rfl
       have e10:a'.tmps.getD 10 j1=(.int D (t:Int)):=(hfar 10 (fun j _=>by omega)).trans rfl
       have e11:a'.tmps.getD 11 j1=(I (some ⟨gx,0,none⟩)):=(hfar 11 (fun j _=>by omega)).trans rfl
       have hi8:=i_16 hi9
       clear hfar
       rcases hi8 with rfl|rfl|rfl|rfl|rfl|rfl|rfl|rfl|rfl|rfl|rfl|rfl|rfl|rfl|rfl|rfl|rfl
       all_goals (simp at ho;subst ho)
       ·exact .inl ⟨vy,W,by simp only[jz,qc,e7];go_simp,fun L2 v2 hu=>HJ.pure hu (by omega) (fun y hy=>by simp only[appH]at hy;injection hy)⟩
       ·have hq9:=World.ownsRow_lit W #[] 0 (base:=w4.heap.size) (e:=242) (size:=4) HJ.h.b.size (by decide) (by simp)
        exact .inl ⟨B (some ⟨W.heap.size,0,none⟩) 0 0,W.alloc (F #[] 242),by simp only[jz,qc];go_simp,fun L2 v2 hu=>HJ.low hu (by omega) (HJ.h.no10 (.inl (HJ.h.no7 hLi))) (HJ.h.make hu hLi rfl hq9 (World.grownBy_alloc W _ none) rfl)⟩
       ·exact .inl ⟨(B (some ⟨b,off,none⟩) n cp),W,by simp only[jz,qc,e1];go_simp,fun L2 v2 hu=>HJ.pure hu (by omega) (fun y hy=>by simp only[appH]at hy;injection hy)⟩
       ·exact .inl ⟨(.int D (q:Int)),W,by simp only[jz,qc,e8];go_simp,fun L2 v2 hu=>HJ.pure hu (by omega) (fun y hy=>by simp only[appH]at hy;injection hy)⟩
       ·have l2:L9 2=true:=dp hdep 2
        have l3:L9 3=true:=dp hdep 3
        have d2:a'.tmps.getD 50 j1=(B (some ⟨b,off,none⟩) n cp):=HJ.h.k 2 (by omega) l2 _ rfl
        have d3:a'.tmps.getD 51 j1=(.int D (q:Int)):=HJ.h.k 3 (by omega) l3 _ rfl
        exact .inl ⟨(I (some ⟨b,off+q*3,none⟩)),W,by simp only[jz,qc,d2,d3];go_simp;first|done|(intro hq9;exfalso;omega),fun L2 v2 hu=>HJ.pure hu (by omega) (fun y hy=>by simp only[appH]at hy;injection hy)⟩
       ·have l4:L9 4=true:=dp hdep 4
        have d4:a'.tmps.getD 52 j1=(I (some ⟨b,off+q*3,none⟩)):=HJ.h.k 4 (by omega) l4 _ rfl
        exact .inl ⟨(I (some ⟨b,off+q*3,none⟩)),W,by simp only[jz,qc,d4];go_simp,fun L2 v2 hu=>HJ.pure hu (by omega) (fun y hy=>by simp only[appH]at hy;injection hy)⟩
       ·have l5:L9 5=true:=dp hdep 5
        have d5:a'.tmps.getD 53 j1=(I (some ⟨b,off+q*3,none⟩)):=HJ.h.k 5 (by omega) l5 _ rfl
        have y0:=(Frm.of_below HJ.h.b).cell' HY0w.out id
        exact .inl ⟨(B A0 n0 c0),W,by simp only[jz,qc,d5];go_simp,fun L2 v2 hu=>HJ.pure hu (by omega) (fun y hy=>by simp only[appH]at hy;injection hy)⟩
       ·have l1:L9 1=true:=dp hdep 1
        have l6:L9 6=true:=dp hdep 6
        have d6:a'.tmps.getD 54 j1=(B A0 n0 c0):=HJ.h.k 6 (by omega) l6 _ rfl
        have h7:L9 7=false:=hLi;have hr4:W.ownsRow w4.heap.size 242 4 (a'.tmps.getD 49 j1) 0 []:=HJ.h.r4 l1 h7
        obtain⟨v',W',hrun,hown,hgr,hat⟩:=cX (P:=ql) W w4.heap.size 83 83 242 i0 (J #[.int D 0,.int D 0,.int D 0,O false]) 4 32 Tryz.underlying83 hi iz0 iz1 iz2 rfl (by decide) _ 0 [] hr4 (fun _=>False) A0 n0 c0 vs ((HQS.out.1.frm (Frm.of_below (HBw4.out.trans (HJ.h.b.mono HBw4.out.size))))) HQS.out.2.2 (by unfold maxLen;omega) (by omega) HJ.h.b.size
        rw[Nat.zero_add,List.nil_append]at hown
        exact .inl ⟨v',W',by simp only[jz,qc,d6,resolve,invoke,builtin,Sem.run_bind,Sem.run_pure,Result.andThen_ok,List.map_toArray,List.map_cons,List.map_nil,hrun],fun L2 v2 hu=>HJ.low hu (by omega) (HJ.h.no10 (.inl h7)) (HJ.h.app1 hu h7 l1 rfl hown hgr hat)⟩
       ·exact .inl ⟨(B (some ⟨b9,o9,none⟩) L.length c9),W,by simp only[jz,qc,e9];go_simp,fun L2 v2 hu=>HJ.pure hu (by omega) (fun y hy=>by simp only[appH]at hy;injection hy)⟩
       ·exact .inl ⟨(.int D (t:Int)),W,by simp only[jz,qc,e10];go_simp,fun L2 v2 hu=>HJ.pure hu (by omega) (fun y hy=>by simp only[appH]at hy;injection hy)⟩
       ·have l8:L9 8=true:=dp hdep 8
        have l9:L9 9=true:=dp hdep 9
        have d8:a'.tmps.getD 56 j1=(B (some ⟨b9,o9,none⟩) L.length c9):=HJ.h.k 8 (by omega) l8 _ rfl
        have d9:a'.tmps.getD 57 j1=(.int D (t:Int)):=HJ.h.k 9 (by omega) l9 _ rfl
        exact .inl ⟨(I (some ⟨b9,o9+t*4,none⟩)),W,by simp only[jz,qc,d8,d9];go_simp;first|done|(intro hq9;exfalso;omega),fun L2 v2 hu=>HJ.pure hu (by omega) (fun y hy=>by simp only[appH]at hy;injection hy)⟩
       ·have l10:L9 10=true:=dp hdep 10
        have d10:a'.tmps.getD 58 j1=(I (some ⟨b9,o9+t*4,none⟩)):=HJ.h.k 10 (by omega) l10 _ rfl
        have y0:=(Frm.of_below HJ.h.b).cell' HX0w.out id;have y1:=(Frm.of_below HJ.h.b).cell' HX1w.out id;have y2:=(Frm.of_below HJ.h.b).cell' HX2w.out id;have y3:=(Frm.of_below HJ.h.b).cell' HX3w.out id
        exact .inl ⟨(J #[.int D (ss:Int),.int D sd,.int D (die:Int),O sh]),W,by simp only[jz,qc,d10];go_simp,fun L2 v2 hu=>HJ.pure hu (by omega) (fun y hy=>by simp only[appH]at hy;injection hy)⟩
       ·have l11:L9 11=true:=dp hdep 11
        have d11:a'.tmps.getD 59 j1=(J #[.int D (ss:Int),.int D sd,.int D (die:Int),O sh]):=HJ.h.k 11 (by omega) l11 _ rfl
        have d11':=d11;rw[Array.getD_eq_getD_getElem?]at d11'
        exact .inl ⟨B (some ⟨W.heap.size,0,none⟩) 1 1,W.alloc (F #[.int D (ss:Int),.int D sd,.int D (die:Int),O sh] 242),by simp only[jz,qc,d11];go_simp,fun L2 v2 hu=>HJ.low hu (by omega) (HJ.h.no10 (.inr hLi)) (HJ.h.bsl hu hLi rfl _)⟩
       ·have l7:L9 7=true:=dp hdep 7
        have l12:L9 12=true:=dp hdep 12
        have h10:L9 13=false:=hLi;have hr7:W.ownsRow w4.heap.size 242 4 (a'.tmps.getD 55 j1) n0 vs:=HJ.h.r7 l7 h10;obtain⟨g,d12,-,hg2',hg3',_,_⟩:=HJ.h.s9 l12 h10;replace d12:a'.tmps.getD 60 j1=B (some ⟨g,0,none⟩) 1 1:=d12
        obtain⟨v',W',hrun,hown,hgr,-⟩:=cX (P:=ql) W w4.heap.size 83 83 242 i0 (J #[.int D 0,.int D 0,.int D 0,O false]) 4 32 Tryz.underlying83 hi iz0 iz1 iz2 rfl (by decide) _ n0 vs hr7 (fun _=>False) (some ⟨g,0,none⟩) 1 1 [.int D (ss:Int),.int D sd,.int D (die:Int),O sh] ⟨rfl,fun _=>⟨g,0,rfl,hg2',id,hg3'⟩⟩ (fun u hu=>by simp at hu;rcases hu with rfl|rfl|rfl|rfl<;>rfl) (by unfold maxLen;omega) (by omega) HJ.h.b.size
        exact .inl ⟨v',W',by simp only[jz,qc,d12,resolve,invoke,builtin,Sem.run_bind,Sem.run_pure,Result.andThen_ok,List.map_toArray,List.map_cons,List.map_nil,hrun],fun L2 v2 hu=>HJ.low hu (by omega) h10 (HJ.h.app2 hu h10 l7 l12 rfl hown hgr)⟩
       ·have y0:=(HCw.out.below HJ.h.b).cell 0 _ rfl
        have y1:=(HCw.out.below HJ.h.b).cell 1 _ rfl
        exact .inl ⟨(J #[B (some ⟨ga,0,none⟩) nx.1.length k1,B (some ⟨gb,0,none⟩) nx.2.length k2]),W,by simp only[jz,qc,e11];go_simp,fun L2 v2 hu=>HJ.pure hu (by omega) (fun y hy=>by simp only[appH]at hy;injection hy)⟩
       ·have l13:L9 13=true:=dp hdep 13
        have l14:L9 14=true:=dp hdep 14
        have d14:a'.tmps.getD 62 j1=(J #[B (some ⟨ga,0,none⟩) nx.1.length k1,B (some ⟨gb,0,none⟩) nx.2.length k2]):=HJ.h.k 14 (by omega) l14 _ rfl
        have hr10:W.ownsRow w4.heap.size 242 4 (a'.tmps.getD 61 j1) (n0+1) _:=HJ.h.r10 l13
        obtain⟨Az,cz,d13,_,_⟩:=aY (S:=fun _=>False) hr10 (fun _ _ h=>h) (by omega)
        have d13':=d13;rw[Array.getD_eq_getD_getElem?]at d13';have d14':=d14;rw[Array.getD_eq_getD_getElem?]at d14'
        exact .inl ⟨J #[B Az (n0+1) cz,(B (some ⟨ga,0,none⟩) nx.1.length k1),(B (some ⟨gb,0,none⟩) nx.2.length k2)],W,by simp only[jz,qc,d13,d14];go_simp,fun L2 v2 hu=>HJ.b15 hu rfl (by show _=Value.agg #[a'.tmps.getD 61 j1,_,_];rw[d13]) l13 hLi⟩
       ·have l15:L9 15=true:=dp hdep 15
        have l13:L9 13=true:=HJ.w15 l15;have hr10:W.ownsRow w4.heap.size 242 4 (a'.tmps.getD 61 j1) (n0+1) _:=HJ.h.r10 l13
        obtain⟨Az,cz,d13,_,_⟩:=aY (S:=fun _=>False) hr10 (fun _ _ h=>h) (by omega)
        have d15:a'.tmps.getD 63 j1=J #[a'.tmps.getD 61 j1,(B (some ⟨ga,0,none⟩) nx.1.length k1),(B (some ⟨gb,0,none⟩) nx.2.length k2)]:=HJ.e15 l15;rw[d13]at d15;have d15':=d15;rw[Array.getD_eq_getD_getElem?]at d15'
        exact .inl ⟨B (some ⟨W.heap.size,0,none⟩) 1 1,W.alloc (F #[B Az (n0+1) cz,(B (some ⟨ga,0,none⟩) nx.1.length k1),(B (some ⟨gb,0,none⟩) nx.2.length k2)] 85),by simp only[jz,qc,d15];go_simp,fun L2 v2 hu=>(by have h9:JK _ _ _ _ _ _ _ _ L2 v2 (W.alloc (F #[a'.tmps.getD 61 j1,(B (some ⟨ga,0,none⟩) nx.1.length k1),(B (some ⟨gb,0,none⟩) nx.2.length k2)] 85)):=HJ.b16 hu rfl l15 85;rw[d13]at h9;exact h9)⟩
      ·intro L9 v W hall HJ
       have hr:=HJ.h.r10 (hall 13 (by omega))
       have hv0:v 0=vy:=HJ.h.k 0 (by omega) (hall 0 (by omega)) _ rfl
       obtain⟨gp,hv16,-,hCp⟩:=HJ.s16 (hall 16 (by omega))
       have HBJ:=h_ HJ.h.b;have hzW:w4.heap.size<=W.heap.size:=HBJ.out.size
       have hfar:∀k,w2.heap.size<=k->wr.heap.size<=k->¬wth (fun k=>k<w.heap.size+1\/(wo.heap.size<=k/\k<w2.heap.size)) vy k:=fun k h1 h2 h3=>by
        rcases h3 with h3|h3
        ·rcases h3 with h3|h3<;>omega
        ·have:=(HVY.out k h3).2.1;omega
       obtain⟨Az,cz,hvz,hrz,hcz⟩:=aY (S:=wth (fun k=>k<w.heap.size+1\/(wo.heap.size<=k/\k<w2.heap.size)) vy) hr (fun k hk=>by have:=(qh hr k hk).1;exact hfar k (by omega) (by omega)) (by omega)
       rw[hvz]at hCp hr
       simp only[qj,qk,putV,hv0,hv16,Act.put,List.setIfInBounds_toArray,List.set_cons_zero,List.set_cons_succ]
       clear hvz hv0 hv16 hall HJ;obtain⟨cs,hrow,hpe,hnb⟩:=HO4.out.below HBJ.out;have HROW:=h_ hrow;have HPV:=h_ hpe
       have HPE:Hid (PEs (wth (fun k=>k<w.heap.size+1\/(wo.heap.size<=k/\k<w2.heap.size)) vy) W (m+1) [B Az (n0+1) cz,(B (some ⟨ga,0,none⟩) nx.1.length k1),(B (some ⟨gb,0,none⟩) nx.2.length k2)] [nx]):=by
        refine PEs.one ⟨⟨Az,n0+1,cz,_,rfl,hrz,hcz,by have:=HQS.out.2.1;omega,fun x hx=>?_⟩,PV.own (own_below HG1.out HBJ.out) (fun k hk=>hfar k (by omega) (by omega)),PV.own (own_below HG2.out HBJ.out) (fun k hk=>hfar k (by omega) (by omega))⟩
        rcases List.mem_append.1 hx with h9|h9
        ·exact HQS.out.2.2 x h9
        ·simp at h9;rcases h9 with rfl|rfl|rfl|rfl<;>rfl
       have HNB:=h_ hnb
       have HNW:Hid (∀j u,[B Az (n0+1) cz,(B (some ⟨ga,0,none⟩) nx.1.length k1),(B (some ⟨gb,0,none⟩) nx.2.length k2)][j]? =some u->W.cell? ((⟨gp,0,none⟩:Addr).add j)=some u):=fun j u hj=>by
        have h9:=hCp.cell j u hj;unfold Addr.add
        split
        ·rename_i h0;rw[h0]at h9;exact h9
        ·rw[Nat.zero_add];exact h9
       have HFXW:Hid (Frm (fun k=>w.heap.size+1<=k/\k<wo.heap.size) w2 W):=HFX4.out.trans (Frm.of_below' _ HBJ.out)
       have hzb:w.heap.size+1<=W.heap.size:=by omega
       clear hr hrz hrow hpe hnb hfar hCp HO4 HFX4 hcz
       go_wp2_with (at_builtin;(refine wpList_append_own_at _ rfl _ _ 79 rfl (w.heap.size+1) 85 j0 (J #[B none 0 0,B none 0 0,B none 0 0]) 3 72 Tryz.underlying79 hj jz0 jz1 jz2 rfl (by decide) _ _ _ rfl HROW.out ⟨gp,0,none⟩ 1 1 [B Az (n0+1) cz,(B (some ⟨ga,0,none⟩) nx.1.length k1),(B (some ⟨gb,0,none⟩) nx.2.length k2)] rfl rfl HNW.out (fun u hu=>by simp at hu;rcases hu with rfl|rfl|rfl<;>rfl) (by have:=HKL.out;unfold maxLen;omega) (by have:=HKL.out;omega) hzb ?_);intro v' w6 hown hgrow _ hat)
       have HO6:Hid (OPl (fun k=>k<w.heap.size+1\/(wo.heap.size<=k/\k<w2.heap.size)) w6 (m+1) (w.heap.size+1) 85 v' (nextI P (own,other) OUT (L.take (t+1)))):=by
        unfold Hid;rw[HE.out]
        refine OPl.grew2 HPV.out HPE.out hown rfl hgrow hat HNB.out (fun h9=>?_)
        rcases h9 with h9|h9<;>omega
       have HFX6:Hid (Frm (fun k=>w.heap.size+1<=k/\k<wo.heap.size) w2 w6):=HFXW.out.outs' (Frm.of_grown hgrow) (fun k hk=>by
        obtain⟨q1,q2,q3⟩:=HVY.out k hk.symm
        have q4:¬(wo.heap.size<=k/\k<w2.heap.size):=fun h9=>q3 (.inr h9)
        omega)
       clear hown hgrow hat HNW HNB HPE HPV HROW HFXW
       exact⟨⟨t+1,by omega,by go_num,⟨v',rfl,HO6⟩,HFX6⟩,by simp[intOf];omega⟩
    ·have hge:¬(t:Int)<(L.length:Int):=by omega
     have HEK:Hid (nextI P (own,other) OUT (L.take t)=nextF P h die [] (bs.take (q+1))):=by
      unfold Hid
      rw[HNF.out,qi (by omega)]
     have HO7:Hid (OPl (fun k=>k<w.heap.size+1) wr (m+1) (w.heap.size+1) 85 vy (nextF P h die [] (bs.take (q+1)))):=by
      unfold Hid;rw[<-HEK.out]
      exact HO.out.set fun k hk=>.inl hk
     have HZ7:Hid (w.heap.size+2<=wr.heap.size):=by unfold Hid;omega
     clear HO HEK HNF
     go_wp2_with (fail)
     exact⟨⟨q+1,by omega,by go_num,⟨vy,rfl,HO7⟩,HZ7,HF⟩,by simp[intOf];omega⟩
  ·have hge:¬(q:Int)<(n:Int):=by omega
   have HE:Hid (nextF P h die [] (bs.take q)=nextB P h die bs):=by
    unfold Hid
    rw[qi (by rw[HLN.out];omega)];rfl
   have HR:Hid (RetPl w (m+1) (nextB P h die bs) (K vx) wr):=by
    rw[<-HE.out]
    obtain⟨A9,c9,hv9,hp9,hc9⟩:=(HO.out.set (S':=fun k=>k<w.heap.size) (fun k hk=>by show k<_;have:k<w.heap.size:=hk;omega)).read
    exact⟨A9,c9,by rw[hv9],hp9,hc9,HF.out.b⟩
   clear HE HO
   go_wp2_with (fail)
   go_ret
   exact HR.out
end Go.Proofs.YtcmeoenkgmghkaaGreat

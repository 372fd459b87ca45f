/- Part of one proof. There are no conditions. -/
import Derived.Test.YtkaiilmgemaljaaGreatTE4
import Derived.Test.YtkaiilmgemaljaaGreatTD18
import Derived.Test.YtkaiilmgemaljaaGreatTF1
import Derived.Test.YtkaiilmgemaljaaGreatTU6
import Derived.Test.YtkaiilmgemaljaaGreatTZb
import Derived.Test.YtkaiilmgemaljaaGreatTL6
import Derived.Test.YtkaiilmgemaljaaGreatTN75
import Derived.Test.YtkaiilmgemaljaaGreatTN70
import Derived.Deep.AppendLies
import Derived.Deep.Cut
set_option maxHeartbeats 0
set_option linter.unusedVariables false
set_option linter.unusedSimpArgs false
set_option maxRecDepth 100000
namespace Go.Proofs.YtkaiilmgemaljaaGreat
open Go.RowKit Ps Ra Ex
def AlcY (lo:Nat) (T:TypeId) (cs:List Value):RP:=fun v W=>∃g,v = .pointer (some ⟨g,0,none⟩)/\lo<=g/\Cel W g cs/\∃cur,W.heap[g]? = some (.cells cur T (0,0))
theorem stb_alcY (lo:Nat) (T:TypeId) (cs:List Value):Stb (AlcY lo T cs):=fun _ _ _ ⟨g,h1,h2,h3,cur,h4⟩ hb=>⟨g,h1,h2,h3.below hb,cur,(hb.block g h3.lt).trans h4⟩
theorem alcY_new {lo:Nat} (W:World) (cs:Array Value) (T:TypeId) (h:lo<=W.heap.size):AlcY lo T cs.toList (.pointer (some ⟨W.heap.size,0,none⟩)) (W.alloc (.cells cs T)):=⟨_,rfl,h,Cel.new W cs T,cs,heap_alloc_new W _⟩
theorem jp (W:World) (g:Nat) (v0 v1 v2 v3 u0 u1:Value):Frm (fun j=>j=g\/j=g+1) W ((((((W.setCell ⟨g,0,none⟩ v0).setCell ⟨g,1,none⟩ v1).setCell ⟨g,2,none⟩ v2).setCell ⟨g,3,none⟩ v3).setCell ⟨g+1,0,none⟩ u0).setCell ⟨g+1,1,none⟩ u1):=
 ((frm_st4 W g v0 v1 v2 v3).mono fun _ h=>.inl h).trans ((im _ (g+1) u0 u1).mono fun _ h=>.inr h)
theorem own_sq {S:Nat->Prop} {W:World} {base:Nat} {e:TypeId} {A:Option Addr} {c:Nat} {xs:List Int} (h:OwnS W base e (.slice A xs.length c) xs) (hS:∀j,S j->j<base):SQ S W A xs.length xs:=
 ⟨(h.sl rfl).1,fun _ b off s hA hb=>by have:=(h.lt b (by rw[hA];rfl)).1;have:=hS b hb;omega⟩
theorem sl_far {O:Nat->Prop} {W W':World} {A:Option Addr} {n:Nat} {xs:List Int} (h:SL W A n xs) (hf:Frm O W W') (hn:∀b off,A=some ⟨b,off,none⟩->¬O b):SL W' A n xs:=
 ⟨h.1,fun h0=>by
  obtain⟨b,off,hA,hlt,hc⟩:=h.2 h0
  exact⟨b,off,hA,Nat.lt_of_lt_of_le hlt hf.size,fun k hk=>hf.cell' (hc k hk) (hn b off hA)⟩⟩
theorem sl_news {W:World} {b o n:Nat} {xs:List Int} (h:SL W (some ⟨b,o,none⟩) n xs) (j:Nat) (u:Value) (hu:(xs.map (Value.int .i64))[j]? = some u):W.cell? ((⟨b,o,none⟩:Addr).add j)=some u:=by
 have hj:j<xs.length:=by have:=(List.getElem?_eq_some_iff.1 hu).1;simpa using this
 obtain⟨b',o',hA,_,hc⟩:=h.2 (by have:=h.1;omega)
 injection hA with hA
 rw[hA,Addr.add_lit,hc j (by have:=h.1;omega),<- getD_map_int xs j hj,hu]
theorem app_fresh (W:World) (lo g m c:Nat) (ad:Addr) (xs:List Int) (hl:xs.length=m) (hnews:∀j u,(xs.map (Value.int .i64))[j]? = some u->W.cell? (ad.add j)=some u) (hm0:0<m) (hm:m<=1000000) (hlo:lo<=W.heap.size) (ty:TypeId):
  ∃v W',(Builtin.append_ #[26,26] ty #[.slice (some ⟨g,0,none⟩) 0 0,.slice (some ad) m c]).run Tryz.prog W = .ok v W'/\Below W.heap.size W W'/\OwnS W' lo 2 v xs:=by
 obtain⟨i0,hi,hz0,hz1,hz2⟩:=info_parts Tryz.infoI
 have hbytes:(0+m)*i0.bytes<=140737488355328:=by rw[hz2];omega
 have hr:=run_append_grow (P:=Tryz.prog) W 26 ty 2 i0 (.int .i64 0) Tryz.underlying26 hi hz0 ⟨g,0,none⟩ 0 0 [] (by simp) (fun j v h=>by simp at h) ad m c (xs.map (Value.int .i64)) (by rw[hz1,List.length_map,hl,Nat.mul_one]) hnews (by omega) (by omega) (growslice_fits (by omega) hbytes)
 have hge:=grownCap_ge W (0+m) 0 2
 have hcm:=grownCap_le_maxLen W (0+m) 0 2 (by unfold maxLen;omega)
 simp only[Nat.zero_add]at hr hge hcm
 refine⟨_,_,hr,(drw (Below.refl _ _)).alloc (by simp) _,?_⟩
 unfold OwnS;rw[hl]
 refine⟨by rw[List.length_map,hl,Nat.mul_one],.inr ⟨W.heap.size,_,_,rfl,hlo,heap_alloc_new W.drew _,by omega,hcm,?_,?_⟩⟩
 ·have h1:(Value.int .i64 0).cells.size=1:=rfl
  simp only[Array.size_append,List.size_toArray,size_zeroCells,List.length_map,hl,h1]
  simp;omega
 ·simp only[Array.toList_append,List.append_assoc]
  have:(xs.map (Value.int .i64)).length=m*1:=by rw[List.length_map,hl,Nat.mul_one]
  rw[<- this]
  simp
def SliE (lo:Nat):RP:=fun v _=>∃b,v = .slice (some ⟨b,0,none⟩) 0 0/\lo<=b
theorem stb_sliE (lo:Nat):Stb (SliE lo):=fun _ _ _ h _=>h
theorem bstR_le1 (p c h s ra rb:Int) (own other:List Int):(bstR p c h s ra rb own other).1.length<=1000:=by
 unfold bstR
 split
 ·rename_i H
  obtain⟨hT,hr,_⟩:=eG H;obtain⟨hv,hp1,_,_⟩:=de hT;have hvv:=aw hv;obtain⟨a,b,rfl,rfl,ha1,has,hb1,hba⟩:=du hr
  obtain⟨c',rfl⟩:∃c':Nat,c=c':=⟨c.toNat,by omega⟩
  obtain⟨h',rfl⟩:∃h':Nat,h=h':=⟨h.toNat,by omega⟩
  have hpp:=ba hp1
  simp only[Int.toNat_natCast]
  cases hb:bestS (sq s.toNat) (sec s.toNat other) (resultsL own a b) with
  | none=>simp
  | some t =>
    obtain ⟨n, at', x⟩ := t
    show ((resultsL own a b).getD at' []).length <= 1000
    by_cases hlt : at' < (resultsL own a b).length
    · have := (ax ha1 hb1 hpp _ (am _ [] hlt)).1.1
      omega
    · rw [List.getD_eq_getElem?_getD, List.getElem?_eq_none (by omega)]; simp
 ·simp
theorem bstR_code {p c h s ra rb:Int} {own other q:List Int} (H:(q,(0:Int))=bstR p c h s ra rb own other):codeK p c h s ra rb own other true=0:=by
 unfold bstR at H
 split at H
 ·assumption
 ·exact (Prod.mk.inj H).2.symm
def dsLO:Nat->Nat
 | 0=>64
 | 1=>65
 | 2=>66
 | 3=>67
 | 4=>68
 | 5=>69
 | 6=>70
 | 7=>71
 | 8=>63
 | 9=>72
 | 10=>73
 | 11=>11
 | _=>0
theorem losses_law (C:Option Addr) (n c:Nat) (bs:List Int) (w:World) (hC:SBy w C n bs):
  Calls Tryz.prog 4 #[.slice C n c] w fun e w'=>e = .returned (.bool true)/\Below w.heap.size w w':=by
 have HC:=h_ hC;clear hC
 by_cases hn:4096<n
 ·have hd:decide (4096<n)=true:=by simp[hn]
  go_enter Tryz.func4,Tryz.ntmps4
  go_wp2_with (fail)
  refine (big_any C n c w).mono ?_
  rintro e w' ⟨rfl,rfl⟩
  rw[hd]
  go_wp2_with (fail)
  go_ret
  exact⟨rfl,Bel.rfl' _⟩
 have hd:decide (4096<n)=false:=by simp[hn]
 have HD:=h_ fun (W:World) (h:SBy W C n bs)=>dV C n c bs W h (by omega)
 obtain⟨i0,hi,iz0,iz1,iz2⟩:=info_parts Tryz.infoI;have hsm:Small (drawnB bs).1:=ir bs;generalize drawnB bs=R at *;obtain⟨⟨p,cI,hI,sI⟩,own,other,ra,rb⟩:=R
 go_enter Tryz.func4,Tryz.ntmps4
 go_wp2_with (fail)
 refine (big_any C n c w).mono ?_
 rintro e w' ⟨rfl,rfl⟩
 rw[hd]
 go_wp2_with (fail)
 refine (HD.out w HC.out).mono ?_
 rintro e w1 ⟨v1,v2,rfl,h1,h2,hb⟩
 obtain⟨B1,l1,rfl,s1,m1a⟩:=h1.read;obtain⟨D1,r1,rfl,s2,m1b⟩:=h2.read;have hw1:w.heap.size<=w1.heap.size:=hb.size;have H1:=h_ ((s1.alloc (.cells #[.int .i64 p,.int .i64 cI,.int .i64 hI,.int .i64 sI] 25)).alloc (.cells #[.int .i64 ra,.int .i64 rb] 39));have H2:=h_ ((s2.alloc (.cells #[.int .i64 p,.int .i64 cI,.int .i64 hI,.int .i64 sI] 25)).alloc (.cells #[.int .i64 ra,.int .i64 rb] 39));have HV:Hid (Cel ((w1.alloc (.cells #[.int .i64 p,.int .i64 cI,.int .i64 hI,.int .i64 sI] 25)).alloc (.cells #[.int .i64 ra,.int .i64 rb] 39)) w1.heap.size [.int .i64 p,.int .i64 cI,.int .i64 hI,.int .i64 sI]):=(Cel.new w1 #[.int .i64 p,.int .i64 cI,.int .i64 hI,.int .i64 sI] _).alloc _
 have HR:Hid (Cel ((w1.alloc (.cells #[.int .i64 p,.int .i64 cI,.int .i64 hI,.int .i64 sI] 25)).alloc (.cells #[.int .i64 ra,.int .i64 rb] 39)) (w1.heap.size+1) [.int .i64 ra,.int .i64 rb]):=Cel.new' _ #[.int .i64 ra,.int .i64 rb] _ (by simp)
 have HB:=h_ ((hb.alloc hb.size (.cells #[.int .i64 p,.int .i64 cI,.int .i64 hI,.int .i64 sI] 25)).alloc (by simp;omega) (.cells #[.int .i64 ra,.int .i64 rb] 39))
 clear h1 h2 hb s1 s2
 go_wp2_with (fail)
 generalize (w1.alloc (.cells #[.int .i64 p,.int .i64 cI,.int .i64 hI,.int .i64 sI] 25)).alloc (.cells #[.int .i64 ra,.int .i64 rb] 39)=V1 at *;generalize w1.heap.size=g1 at *;obtain⟨rr,hrr⟩:∃r,r=bstR p cI hI sI ra rb own other:=⟨_,rfl⟩;obtain⟨q,e1⟩:=rr;have hq24:=bstR_le1 p cI hI sI ra rb own other;rw[<- hrr]at hq24
 simp only at hq24
 have E1:=h_ hrr;clear hrr;have hgb:g1+1<V1.heap.size:=HR.out.lt
 have K:Calls Tryz.prog 23 #[.agg #[.int .i64 p,.int .i64 cI,.int .i64 hI,.int .i64 sI],.slice B1 own.length l1,.slice D1 other.length r1,.agg #[.int .i64 ra,.int .i64 rb]] V1 fun e w'=>∃v base,e = .returned (.tuple #[v,.int .i64 e1])/\V1.heap.size<=base/\OwnS w' base 2 v q/\Below V1.heap.size V1 w':=by
  have:=fT p cI hI sI ra rb B1 D1 _ _ l1 r1 own other V1 H1.out H2.out m1a m1b;rw[<- E1.out]at this;exact this
 refine K.mono ?_
 rintro e' w2 ⟨v3,bs3,rfl,hbs,ho,hb⟩
 obtain⟨A3,k3,rfl,s3,m3⟩:=ho.read;replace H1:=h_ (H1.out.below hb);replace H2:=h_ (H2.out.below hb);replace HV:=h_ (HV.out.below hb);replace HR:=h_ (HR.out.below hb);replace HB:=h_ (HB.out.trans (hb.mono HB.out.size))
 have H3:Hid (SQ (fun j=>j=g1\/j=g1+1) w2 A3 q.length q):=own_sq ho (fun j hj=>by rcases hj with h|h<;>omega)
 clear K ho hbs hb s3 hgb
 go_wp2_with (fail)
 have hgb:g1+1<w2.heap.size:=HR.out.lt
 refine (HD.out _ (HC.out.below HB.out)).mono ?_
 rintro e' w3 ⟨v1,v2,rfl,h1,h2,hb⟩
 obtain⟨B2,l2,rfl,s1,m2a⟩:=h1.read;obtain⟨D2,r2,rfl,s2,m2b⟩:=h2.read;replace HV:=h_ (HV.out.below hb);replace HR:=h_ (HR.out.below hb);replace HB:=h_ (HB.out.trans (hb.mono HB.out.size));replace H3:=h_ (H3.out.below hb);have HO1:=h_ h1;have HO2:=h_ h2;clear h1 h2 s1 s2 hb H1 H2;have c0:=HV.out.cell 0 _ rfl;have c1:=HV.out.cell 1 _ rfl;have c2:=HV.out.cell 2 _ rfl;have c3:=HV.out.cell 3 _ rfl;have cz:=HV.out.lt;have d0:=HR.out.cell 0 _ rfl;have d1:=HR.out.cell 1 _ rfl;have dz:=HR.out.lt;have f0:=HV.out.froz 0 _ rfl;have f1:=HV.out.froz 1 _ rfl;have f2:=HV.out.froz 2 _ rfl;have f3:=HV.out.froz 3 _ rfl;have x0:=HR.out.froz 0 _ rfl;have x1:=HR.out.froz 1 _ rfl
 go_wp2_with (fail)
 clear c0 c1 c2 c3 cz;clear d0 d1 dz;clear f0 f1 f2 f3 x0 x1
 have hF:Frm (fun j=>j=g1\/j=g1+1) w3 ((((((w3.setCell ⟨g1,0,none⟩ (.int .i64 p)).setCell ⟨g1,1,none⟩ (.int .i64 cI)).setCell ⟨g1,2,none⟩ (.int .i64 hI)).setCell ⟨g1,3,none⟩ (.int .i64 sI)).setCell ⟨g1+1,0,none⟩ (.int .i64 ra)).setCell ⟨g1+1,1,none⟩ (.int .i64 rb)):=jp w3 g1 (.int .i64 p) (.int .i64 cI) (.int .i64 hI) (.int .i64 sI) (.int .i64 ra) (.int .i64 rb)
 have HV':Hid (Cel ((((((w3.setCell ⟨g1,0,none⟩ (.int .i64 p)).setCell ⟨g1,1,none⟩ (.int .i64 cI)).setCell ⟨g1,2,none⟩ (.int .i64 hI)).setCell ⟨g1,3,none⟩ (.int .i64 sI)).setCell ⟨g1+1,0,none⟩ (.int .i64 ra)).setCell ⟨g1+1,1,none⟩ (.int .i64 rb)) g1 [.int .i64 p,.int .i64 cI,.int .i64 hI,.int .i64 sI]):=((HV.out.st4 (.int .i64 p) (.int .i64 cI) (.int .i64 hI) (.int .i64 sI)).far (by omega)).far (by omega)
 have HR':Hid (Cel ((((((w3.setCell ⟨g1,0,none⟩ (.int .i64 p)).setCell ⟨g1,1,none⟩ (.int .i64 cI)).setCell ⟨g1,2,none⟩ (.int .i64 hI)).setCell ⟨g1,3,none⟩ (.int .i64 sI)).setCell ⟨g1+1,0,none⟩ (.int .i64 ra)).setCell ⟨g1+1,1,none⟩ (.int .i64 rb)) (g1+1) [.int .i64 ra,.int .i64 rb]):=((((HR.out.far (by omega)).far (by omega)).far (by omega)).far (by omega)).st2 (.int .i64 ra) (.int .i64 rb)
 clear HV HR;have HV:=HV';have HR:=HR';clear HV' HR'
 replace HB:=h_ (HB.out.trans (hF.below HB.out.size (fun j hj=>by rcases hj with h|h<;>omega)))
 replace H3:=h_ (H3.out.frm hF)
 replace HO1:=h_ (hF.own HO1.out (fun j hj h=>by have:=(HO1.out.lt j hj).1;rcases h with h|h<;>omega))
 replace HO2:=h_ (hF.own HO2.out (fun j hj h=>by have:=(HO2.out.lt j hj).1;rcases h with h|h<;>omega))
 clear hF;generalize (((((w3.setCell ⟨g1,0,none⟩ (.int .i64 p)).setCell ⟨g1,1,none⟩ (.int .i64 cI)).setCell ⟨g1,2,none⟩ (.int .i64 hI)).setCell ⟨g1,3,none⟩ (.int .i64 sI)).setCell ⟨g1+1,0,none⟩ (.int .i64 ra)).setCell ⟨g1+1,1,none⟩ (.int .i64 rb)=V3 at *;have H1:=h_ (HO1.out.sl rfl).1;have H2:=h_ (HO2.out.sl rfl).1;clear HO1 HO2 hgb;have c0:=HV.out.cell 0 _ rfl;have c1:=HV.out.cell 1 _ rfl;have c2:=HV.out.cell 2 _ rfl;have c3:=HV.out.cell 3 _ rfl;have cz:=HV.out.lt;have d0:=HR.out.cell 0 _ rfl;have d1:=HR.out.cell 1 _ rfl;have dz:=HR.out.lt
 (try go_wp2_with (fail))
 clear c0 c1 c2 c3 cz;clear d0 d1 dz
 have K:Calls Tryz.prog 24 #[.agg #[.int .i64 p,.int .i64 cI,.int .i64 hI,.int .i64 sI],.slice B2 own.length l2,.slice D2 other.length r2,.agg #[.int .i64 ra,.int .i64 rb]] V3 fun e w'=>∃v base,e = .returned (.tuple #[v,.int .i64 e1])/\V3.heap.size<=base/\SQO w' base v q/\Below V3.heap.size V3 w':=by
  have:=eX p cI hI sI ra rb B2 D2 _ _ l2 r2 own other V3 H1.out H2.out m2a m2b;rw[<- E1.out]at this;exact this
 refine K.mono ?_
 rintro e' w4 ⟨v4,bs4,rfl,_,⟨A4,k4,rfl,s4,_⟩,hb⟩
 replace HV:=h_ (HV.out.below hb);replace HR:=h_ (HR.out.below hb);replace HB:=h_ (HB.out.trans (hb.mono HB.out.size));replace H3:=h_ (H3.out.below hb);replace H1:=h_ (H1.out.below hb);replace H2:=h_ (H2.out.below hb)
 have CLI:=gm A3 A4 _ _ k3 k4 q q w4 H3.out.1 s4.1 (by omega) (by omega)
 rw[decide_eq_true rfl]at CLI
 have b0:(e1 != e1)=false:=by simp
 clear K s4 hb
 go_wp2_with (fail)
 refine CLI.mono ?_
 rintro e' w5 ⟨rfl,tq,rfl⟩
 have hb:=below_drewN' (Below.refl w4.heap.size w4) tq;replace HV:=h_ (HV.out.below hb);replace HR:=h_ (HR.out.below hb);replace HB:=h_ (HB.out.trans (hb.mono HB.out.size));replace H3:=h_ (H3.out.below hb);replace H1:=h_ (H1.out.below hb);replace H2:=h_ (H2.out.below hb);clear CLI hb;generalize w4.drewN tq=V5 at *
 by_cases h1:e1=0
 focus
  subst h1
  obtain⟨cN,hN,sN,a,b,i,cs,ls,rfl,rfl,rfl,rfl,rfl,hv,hro,hpo,hw5,hil,hbst,hchs,hcl,hll,hl0,hlk⟩:=loss_facts hsm (bstR_code E1.out)
  have hqi:q=(resultsL own a b).getD i []:=by have:=E1.out;rw[hbst]at this;exact (Prod.mk.inj this).1
  have hrr:=of_decide_eq_true hro;have hvv:=aw hv
  have hka:1<=a:=by omega
  have hkb:1<=b:=by omega
  have hh24:hN<=24:=by omega
  have hlen:(resultsL own a b).length<=1000000:=Nat.le_trans (bN hka hkb hpo hh24) (by omega)
  have hqp:=(ax hka hkb hpo _ (am (resultsL own a b) [] hil)).1
  have hq0:0<q.length:=by rw[hqi,hqp.1];omega
  have CBR:=h_ fun (B:Option Addr) (l:Nat) (W:World) (S:Nat->Prop) (hS:∀k,W.heap.size<=k->¬S k) (hx:SL W B own.length own) (hl:own.length<=l)=>eY S p sN cN hN a b B _ l own W hx hl hv hro hpo hS
  have hpl0:∀k,k<(resultsL own a b).length->((resultsL own a b).getD k []).length=hN:=fun k hk=>(ax hka hkb hpo _ (am (resultsL own a b) [] hk)).1.1
  rw[<- hqi]at hl0 hlk;obtain⟨LL,hLL⟩:∃L,L=resultsL own a b:=⟨_,rfl⟩;rw[<- hLL]at hil hcl hlk hlen CBR hpl0;have HLK:=h_ hlk;have HLEN:=h_ hlen;have HL0:=h_ hl0;have HCHS:=h_ hchs;have HCL:=h_ hcl;have HLL:=h_ hll;have HPL0:=h_ hpl0;have HQ0:=h_ hq0;have HIL:=h_ hil;clear hlk hlen hl0 hchs hcl hll hpl0 hqi hqp hbst hLL hv hro hpo hw5 hrr hvv hka hkb hsm E1 hil;have hgb:g1+1<V5.heap.size:=HR.out.lt;obtain⟨b3,o3,hA3,hb3,hc3⟩:=H3.out.1.2 HQ0.out;have HB3:Hid (b3<V5.heap.size):=hb3;clear hb3;subst hA3;have HC3:=h_ hc3;clear hc3
  have CRL:Hid (∀(B D A:Option Addr) (l r k:Nat) (W:World),SL W B own.length own->SL W D other.length other->SL W A q.length q->own.length<=l->other.length<=r->q.length<=k->Calls Tryz.prog 26 #[.agg #[.int .i64 p,.int .i64 cN,.int .i64 hN,.int .i64 sN],.slice B own.length l,.slice D other.length r,.agg #[.int .i64 (a:Int),.int .i64 (b:Int)],.slice A q.length k] W fun e w'=>e = .returned (.tuple #[.agg #[.int .i64 0,.int .i64 0],.int .i64 0])/\Below W.heap.size W w'):=fun B D A l r k W h1 h2 h3 h4 h5 h6=>by
   have:=gu p cN hN sN a b B D A _ _ _ l r k own other q W h1 h2 h3 h4 h5 h6;rw[HL0.out]at this;exact this
  go_wp2_with (fail)
  refine cH 12 (fun i=>i == 10) dsLO Bel (fun _=>True) (GL [Eqv (.agg #[.int .i64 p,.int .i64 cN,.int .i64 hN,.int .i64 sN]),Eqv (.slice B2 own.length l2),Eqv (.slice D2 other.length r2),Eqv (.agg #[.int .i64 (a:Int),.int .i64 (b:Int)]),SliE V5.heap.size,Eqv (.slice (some ⟨b3,o3,none⟩) q.length k3),RowE (fun W b v=>OwnS W b 2 (v) q) V5.heap.size,Eqv (.tuple #[.agg #[.int .i64 0,.int .i64 0],.int .i64 0]),Eqv (.tuple #[.agg #[.int .i64 0,.int .i64 0],.int .i64 0]),Eqv (.agg #[.int .i64 0,.int .i64 0]),Eqv (.int .i64 0),AlcY V5.heap.size 35 [.int .i64 0,.int .i64 0]]) (by kernel_rfl) (by kernel_rfl) (fun _ _ _ _ _ h=>h) (fun _ _ _ h1 h2=>Bel.trans h1 h2) Bel.rfl' (GL.stab (by repeat (first|exact AllStb.nil|refine AllStb.cons (by first|exact stb_eq _|exact stb_rowT stO_I|exact stb_rowE stO_I|exact stb_alcY _ _ _|exact stb_sliE _) ?_))) (Bel.drew _) trivial ?_ ?_ ?_
  focus
   refine ?za
  rotate_left
  focus
   refine ?zb
  rotate_left
  focus
   intro v V6 hW hIW hg
   have g0:v 0 = .agg #[.int .i64 p,.int .i64 cN,.int .i64 hN,.int .i64 sN]:=hg 0 (by omega)
   have g1:v 1 = .slice B2 own.length l2:=hg 1 (by omega)
   have g2:v 2 = .slice D2 other.length r2:=hg 2 (by omega)
   have g3:v 3 = .agg #[.int .i64 (a:Int),.int .i64 (b:Int)]:=hg 3 (by omega)
   obtain⟨_,g4,_⟩:SliE V5.heap.size (v 4) V6:=hg 4 (by omega)
   have g5:v 5 = .slice (some ⟨b3,o3,none⟩) q.length k3:=hg 5 (by omega)
   obtain⟨bs,hbs,ho⟩:RowE (fun W b v=>OwnS W b 2 (v) q) V5.heap.size (v 6) V6:=hg 6 (by omega)
   obtain⟨Ae,ce,g6,_,_⟩:=ho.read;rw[g6]at ho
   have g7:v 7 = .tuple #[.agg #[.int .i64 0,.int .i64 0],.int .i64 0]:=hg 7 (by omega)
   have g8:v 8 = .tuple #[.agg #[.int .i64 0,.int .i64 0],.int .i64 0]:=hg 8 (by omega)
   have g9:v 9 = .agg #[.int .i64 0,.int .i64 0]:=hg 9 (by omega)
   have g10:v 10 = .int .i64 0:=hg 10 (by omega)
   obtain⟨be,g11,gl,hA,hty⟩:AlcY V5.heap.size 35 [.int .i64 0,.int .i64 0] (v 11) V6:=hg 11 (by omega)
   simp only[List.drop_succ_cons,List.drop_zero,putV,dsLO,g0,g1,g2,g3,g4,g5,g6,g7,g8,g9,g10,g11,Act.put]
   clear g0 g1 g2 g3 g4 g5 g6 g7 g8 g9 g10 g11 hg hIW;have hb:Below V5.heap.size V5 V6:=hW;replace HV:=h_ (HV.out.below hb);replace HR:=h_ (HR.out.below hb);replace HB:=h_ (HB.out.trans (hb.mono HB.out.size));replace H3:=h_ (H3.out.below hb);replace H1:=h_ (H1.out.below hb);replace H2:=h_ (H2.out.below hb)
   have hbe:g1+1<be:=by omega
   have HE:=h_ hA;clear hW hA hty hb;have c0:=HE.out.cell 0 _ rfl;have c1:=HE.out.cell 1 _ rfl;have f0:=HE.out.froz 0 _ rfl;have f1:=HE.out.froz 1 _ rfl;have cz:=HE.out.lt
   go_upto_region 12 with (fail)
   clear c0 c1 f0 f1 cz;have HE':Hid (Cel ((V6.setCell ⟨be,0,none⟩ (.int .i64 0)).setCell ⟨be,1,none⟩ (.int .i64 0)) be [.int .i64 0,.int .i64 0]):=HE.out.st2 (.int .i64 0) (.int .i64 0)
   have hb:Frm (fun j=>j=be) V6 ((V6.setCell ⟨be,0,none⟩ (.int .i64 0)).setCell ⟨be,1,none⟩ (.int .i64 0)):=im V6 be (.int .i64 0) (.int .i64 0)
   clear HE;have HE:=HE';clear HE'
   replace HV:=h_ (HV.out.frm hb (by show ¬g1=be;omega))
   replace HR:=h_ (HR.out.frm hb (by show ¬g1+1=be;omega))
   replace HB:=h_ (HB.out.trans (hb.below HB.out.size (fun j hj=>by rw[hj];omega)))
   replace H3:Hid (SQ (fun j=>j=g1\/j=g1+1) ((V6.setCell ⟨be,0,none⟩ (.int .i64 0)).setCell ⟨be,1,none⟩ (.int .i64 0)) (some ⟨b3,o3,none⟩) q.length q):=⟨sl_far H3.out.1 hb (fun b off h=>by injection h with h;injection h with h _;subst h;show ¬b3=be;have:=HB3.out;omega),H3.out.2⟩
   clear hb H1 H2;generalize (V6.setCell ⟨be,0,none⟩ (.int .i64 0)).setCell ⟨be,1,none⟩ (.int .i64 0)=V7 at *
   go_wp2_with (fail)
   have H1:=True.intro;have H2:=True.intro;have hgb:g1+1<V7.heap.size:=HR.out.lt
   refine (HD.out _ (HC.out.below HB.out)).mono ?_
   rintro e' w8 ⟨v1,v2,rfl,h1,h2,hb⟩
   obtain⟨B3,l3,rfl,s1,m3a⟩:=h1.read;obtain⟨D3,r3,rfl,s2,m3b⟩:=h2.read;replace HV:=h_ (HV.out.below hb);replace HR:=h_ (HR.out.below hb);replace HB:=h_ (HB.out.trans (hb.mono HB.out.size));replace H3:=h_ (H3.out.below hb);replace HE:=h_ (HE.out.below hb);have HO1:=h_ h1;have HO2:=h_ h2;clear h1 h2 s1 s2 hb H1 H2;have c0:=HV.out.cell 0 _ rfl;have c1:=HV.out.cell 1 _ rfl;have c2:=HV.out.cell 2 _ rfl;have c3:=HV.out.cell 3 _ rfl;have cz:=HV.out.lt;have d0:=HR.out.cell 0 _ rfl;have d1:=HR.out.cell 1 _ rfl;have dz:=HR.out.lt;have f0:=HV.out.froz 0 _ rfl;have f1:=HV.out.froz 1 _ rfl;have f2:=HV.out.froz 2 _ rfl;have f3:=HV.out.froz 3 _ rfl;have x0:=HR.out.froz 0 _ rfl;have x1:=HR.out.froz 1 _ rfl
   go_wp2_with (fail)
   clear c0 c1 c2 c3 cz;clear d0 d1 dz;clear f0 f1 f2 f3 x0 x1
   have hF:Frm (fun j=>j=g1\/j=g1+1) w8 ((((((w8.setCell ⟨g1,0,none⟩ (.int .i64 p)).setCell ⟨g1,1,none⟩ (.int .i64 cN)).setCell ⟨g1,2,none⟩ (.int .i64 hN)).setCell ⟨g1,3,none⟩ (.int .i64 sN)).setCell ⟨g1+1,0,none⟩ (.int .i64 (a:Int))).setCell ⟨g1+1,1,none⟩ (.int .i64 (b:Int))):=jp w8 g1 (.int .i64 p) (.int .i64 cN) (.int .i64 hN) (.int .i64 sN) (.int .i64 (a:Int)) (.int .i64 (b:Int))
   have HV':Hid (Cel ((((((w8.setCell ⟨g1,0,none⟩ (.int .i64 p)).setCell ⟨g1,1,none⟩ (.int .i64 cN)).setCell ⟨g1,2,none⟩ (.int .i64 hN)).setCell ⟨g1,3,none⟩ (.int .i64 sN)).setCell ⟨g1+1,0,none⟩ (.int .i64 (a:Int))).setCell ⟨g1+1,1,none⟩ (.int .i64 (b:Int))) g1 [.int .i64 p,.int .i64 cN,.int .i64 hN,.int .i64 sN]):=((HV.out.st4 (.int .i64 p) (.int .i64 cN) (.int .i64 hN) (.int .i64 sN)).far (by omega)).far (by omega)
   have HR':Hid (Cel ((((((w8.setCell ⟨g1,0,none⟩ (.int .i64 p)).setCell ⟨g1,1,none⟩ (.int .i64 cN)).setCell ⟨g1,2,none⟩ (.int .i64 hN)).setCell ⟨g1,3,none⟩ (.int .i64 sN)).setCell ⟨g1+1,0,none⟩ (.int .i64 (a:Int))).setCell ⟨g1+1,1,none⟩ (.int .i64 (b:Int))) (g1+1) [.int .i64 (a:Int),.int .i64 (b:Int)]):=((((HR.out.far (by omega)).far (by omega)).far (by omega)).far (by omega)).st2 (.int .i64 (a:Int)) (.int .i64 (b:Int))
   clear HV HR;have HV:=HV';have HR:=HR';clear HV' HR'
   replace HB:=h_ (HB.out.trans (hF.below HB.out.size (fun j hj=>by rcases hj with h|h<;>omega)))
   replace H3:=h_ (H3.out.frm hF)
   replace HE:=h_ (HE.out.frm hF (by rintro (h|h)<;>omega))
   replace HO1:=h_ (hF.own HO1.out (fun j hj h=>by have:=(HO1.out.lt j hj).1;rcases h with h|h<;>omega))
   replace HO2:=h_ (hF.own HO2.out (fun j hj h=>by have:=(HO2.out.lt j hj).1;rcases h with h|h<;>omega))
   clear hF;generalize (((((w8.setCell ⟨g1,0,none⟩ (.int .i64 p)).setCell ⟨g1,1,none⟩ (.int .i64 cN)).setCell ⟨g1,2,none⟩ (.int .i64 hN)).setCell ⟨g1,3,none⟩ (.int .i64 sN)).setCell ⟨g1+1,0,none⟩ (.int .i64 (a:Int))).setCell ⟨g1+1,1,none⟩ (.int .i64 (b:Int))=V8 at *;have H1:=h_ (HO1.out.sl rfl).1;have H2:=h_ (HO2.out.sl rfl).1;clear HO1 HO2 hgb
   (try go_wp2_with (fail))
   refine (CBR.out B3 l3 V8 (fun j=>j=g1\/j=g1+1) (fun k hk h=>by have:=HR.out.lt;rcases h with h|h<;>omega) H1.out m3a).mono ?_
   rintro e' w9 ⟨bL,oL,nL,cL,rfl,hpl,hcL,hb⟩
   replace HV:=h_ (HV.out.below hb);replace HR:=h_ (HR.out.below hb);replace HB:=h_ (HB.out.trans (hb.mono HB.out.size));replace H3:=h_ (H3.out.below hb);replace HE:=h_ (HE.out.below hb);replace H1:=h_ (H1.out.below hb);replace H2:=h_ (H2.out.below hb);have HPL:=h_ hpl;have hnl:LL.length=nL:=hpl.len;clear hpl hb;have c0:=HV.out.cell 0 _ rfl;have c1:=HV.out.cell 1 _ rfl;have c2:=HV.out.cell 2 _ rfl;have c3:=HV.out.cell 3 _ rfl;have cz:=HV.out.lt;have d0:=HR.out.cell 0 _ rfl;have d1:=HR.out.cell 1 _ rfl;have dz:=HR.out.lt
   go_wp2_with (fail)
   clear c0 c1 c2 c3 cz;clear d0 d1 dz;have hgb:g1+1<w9.heap.size:=HR.out.lt
   have K:Calls Tryz.prog 28 #[.agg #[.int .i64 p,.int .i64 cN,.int .i64 hN,.int .i64 sN],.slice B3 own.length l3,.slice D3 other.length r3,.agg #[.int .i64 (a:Int),.int .i64 (b:Int)]] w9 fun e w'=>∃v base,e = .returned (.tuple #[v,.int .i64 0])/\w9.heap.size<=base/\OwnE w' base v cs/\Below w9.heap.size w9 w':=by
    have:=gg p cN hN sN a b B3 D3 _ _ l3 r3 own other w9 H1.out H2.out m3a m3b;rw[HCHS.out]at this;exact this
   refine K.mono ?_
   rintro e' wa ⟨vc,bsc,rfl,hbc,hoc,hb⟩
   obtain⟨Ac,kc,rfl,hec,hkc⟩:=OwnE.readS (S:=fun j=>j=g1\/j=g1+1) hoc (HCL.out.trans hnl) (fun k hk h=>by rcases h with h|h<;>omega)
   replace HV:=h_ (HV.out.below hb);replace HR:=h_ (HR.out.below hb);replace HB:=h_ (HB.out.trans (hb.mono HB.out.size));replace H3:=h_ (H3.out.below hb);replace HE:=h_ (HE.out.below hb);replace H1:=h_ (H1.out.below hb);replace H2:=h_ (H2.out.below hb);replace HPL:=h_ (HPL.out.below hb);have HEC:=h_ hec;clear K hoc hec hb hbc hgb
   go_wp2_with (fail)
   have hgb:g1+1<wa.heap.size:=HR.out.lt
   refine (HD.out _ (HC.out.below HB.out)).mono ?_
   rintro e' wb ⟨v1,v2,rfl,h1,h2,hb⟩
   obtain⟨B4,l4,rfl,s1,m4a⟩:=h1.read;obtain⟨D4,r4,rfl,s2,m4b⟩:=h2.read;replace HV:=h_ (HV.out.below hb);replace HR:=h_ (HR.out.below hb);replace HB:=h_ (HB.out.trans (hb.mono HB.out.size));replace H3:=h_ (H3.out.below hb);replace HE:=h_ (HE.out.below hb);replace HPL:=h_ (HPL.out.below hb);replace HEC:=h_ (HEC.out.below hb);have HO1:=h_ h1;have HO2:=h_ h2;clear h1 h2 s1 s2 hb H1 H2;have c0:=HV.out.cell 0 _ rfl;have c1:=HV.out.cell 1 _ rfl;have c2:=HV.out.cell 2 _ rfl;have c3:=HV.out.cell 3 _ rfl;have cz:=HV.out.lt;have d0:=HR.out.cell 0 _ rfl;have d1:=HR.out.cell 1 _ rfl;have dz:=HR.out.lt;have f0:=HV.out.froz 0 _ rfl;have f1:=HV.out.froz 1 _ rfl;have f2:=HV.out.froz 2 _ rfl;have f3:=HV.out.froz 3 _ rfl;have x0:=HR.out.froz 0 _ rfl;have x1:=HR.out.froz 1 _ rfl
   go_upto_region 16 with (fail)
   clear c0 c1 c2 c3 cz;clear d0 d1 dz;clear f0 f1 f2 f3 x0 x1
   have hF:Frm (fun j=>j=g1\/j=g1+1) wb ((((((wb.setCell ⟨g1,0,none⟩ (.int .i64 p)).setCell ⟨g1,1,none⟩ (.int .i64 cN)).setCell ⟨g1,2,none⟩ (.int .i64 hN)).setCell ⟨g1,3,none⟩ (.int .i64 sN)).setCell ⟨g1+1,0,none⟩ (.int .i64 (a:Int))).setCell ⟨g1+1,1,none⟩ (.int .i64 (b:Int))):=jp wb g1 (.int .i64 p) (.int .i64 cN) (.int .i64 hN) (.int .i64 sN) (.int .i64 (a:Int)) (.int .i64 (b:Int))
   have HV':Hid (Cel ((((((wb.setCell ⟨g1,0,none⟩ (.int .i64 p)).setCell ⟨g1,1,none⟩ (.int .i64 cN)).setCell ⟨g1,2,none⟩ (.int .i64 hN)).setCell ⟨g1,3,none⟩ (.int .i64 sN)).setCell ⟨g1+1,0,none⟩ (.int .i64 (a:Int))).setCell ⟨g1+1,1,none⟩ (.int .i64 (b:Int))) g1 [.int .i64 p,.int .i64 cN,.int .i64 hN,.int .i64 sN]):=((HV.out.st4 (.int .i64 p) (.int .i64 cN) (.int .i64 hN) (.int .i64 sN)).far (by omega)).far (by omega)
   have HR':Hid (Cel ((((((wb.setCell ⟨g1,0,none⟩ (.int .i64 p)).setCell ⟨g1,1,none⟩ (.int .i64 cN)).setCell ⟨g1,2,none⟩ (.int .i64 hN)).setCell ⟨g1,3,none⟩ (.int .i64 sN)).setCell ⟨g1+1,0,none⟩ (.int .i64 (a:Int))).setCell ⟨g1+1,1,none⟩ (.int .i64 (b:Int))) (g1+1) [.int .i64 (a:Int),.int .i64 (b:Int)]):=((((HR.out.far (by omega)).far (by omega)).far (by omega)).far (by omega)).st2 (.int .i64 (a:Int)) (.int .i64 (b:Int))
   clear HV HR;have HV:=HV';have HR:=HR';clear HV' HR'
   replace HB:=h_ (HB.out.trans (hF.below HB.out.size (fun j hj=>by rcases hj with h|h<;>omega)))
   replace H3:=h_ (H3.out.frm hF)
   replace HE:=h_ (HE.out.frm hF (by rintro (h|h)<;>omega))
   replace HPL:=h_ (HPL.out.frm hF);replace HEC:=h_ (HEC.out.frm hF)
   replace HO1:=h_ (hF.own HO1.out (fun j hj h=>by have:=(HO1.out.lt j hj).1;rcases h with h|h<;>omega))
   replace HO2:=h_ (hF.own HO2.out (fun j hj h=>by have:=(HO2.out.lt j hj).1;rcases h with h|h<;>omega))
   clear hF;generalize (((((wb.setCell ⟨g1,0,none⟩ (.int .i64 p)).setCell ⟨g1,1,none⟩ (.int .i64 cN)).setCell ⟨g1,2,none⟩ (.int .i64 hN)).setCell ⟨g1,3,none⟩ (.int .i64 sN)).setCell ⟨g1+1,0,none⟩ (.int .i64 (a:Int))).setCell ⟨g1+1,1,none⟩ (.int .i64 (b:Int))=V9 at *;have H1:=h_ (HO1.out.sl rfl).1;have H2:=h_ (HO2.out.sl rfl).1;clear HO1 HO2 hgb
   have ne0:∀W:World,(binOp .neq 35 (.agg #[.int .i64 0,.int .i64 0]) (.agg #[.int .i64 0,.int .i64 0])).run Tryz.prog W = .ok (.bool false) W:=fun W=>by rw[neq_exact];simp
   have c0:=HE.out.cell 0 _ rfl;have c1:=HE.out.cell 1 _ rfl;have cz:=HE.out.lt
   have bnn:((nL:Int) != (nL:Int))=false:=by simp
   go_wp2_with (fail)
   clear c0 c1 cz
   have hn7:nL<=1000000:=by rw[<- hnl];exact HLEN.out
   have HNL:=h_ hnl
   have hnl0:0<nL:=by rw[<- HNL.out];have:=HIL.out;omega
   have hgV:g1+1<V9.heap.size:=HR.out.lt
   obtain⟨S,hS⟩:∃S:Nat->Prop,S=fun j=>j=g1\/j=g1+1:=⟨_,rfl⟩
   have HSS:=h_ hS;clear hnl HE ne0 bnn hS
   go_loopw [4,5,17] (fun v4 v5 v17 wr=>∃(k:Nat) (B:Option Addr) (l:Nat) (D:Option Addr) (r:Nat),k<=nL/\v17 = .int .i64 k/\v4 = .slice B own.length l/\v5 = .slice D other.length r/\Hid (SL wr B own.length own/\own.length<=l/\SL wr D other.length other/\other.length<=r)/\Hid (Cel wr g1 [.int .i64 p,.int .i64 cN,.int .i64 hN,.int .i64 sN])/\Hid (Cel wr (g1+1) [.int .i64 (a:Int),.int .i64 (b:Int)])/\Hid (Frm (fun j=>j=g1\/j=g1+1) V9 wr)) (fun _ _ v17 _=>nL-(intOf v17).toNat)
   case atStart=>exact⟨0,B4,l4,D4,r4,by omega,rfl,rfl,rfl,⟨H1.out,m4a,H2.out,m4b⟩,HV.out,HR.out,Frm.refl _ _⟩
   case round=>
    clear H1 H2 HV HR;obtain⟨k,B5,l5,D5,r5,hk,rfl,rfl,rfl,HSL,HV,HR,HF⟩:=hrel
    replace HB:=h_ (HB.out.trans (HF.out.below HB.out.size (fun j hj=>by rcases hj with h|h<;>omega)))
    replace H3:=h_ (H3.out.frm HF.out);replace HPL:=h_ (HPL.out.frm HF.out);replace HEC:=h_ (HEC.out.frm HF.out)
    by_cases hlt:k<nL
    focus
     have hki:(k:Int)<(nL:Int):=by omega
     have H1:=h_ HSL.out.1;have H2:=h_ HSL.out.2.2.1;have m5a:=HSL.out.2.1;have m5b:=HSL.out.2.2.2;clear HSL;obtain⟨bl,ol,Bq,mq,cq,hAL,_,q1,hsq,hmq⟩:=HPL.out.at hlt;injection hAL with hAL;injection hAL with hAL1 hAL2;subst hAL1 hAL2;have hmq':(LL.getD k []).length=mq:=hsq.1.1
     obtain⟨hlo,hln,hli⟩:=HLK.out k (by rw[HCL.out,HNL.out];exact hlt)
     obtain⟨xn,hxn⟩:∃x,x=(ls.getD k aK).num:=⟨_,rfl⟩;obtain⟨xd,hxd⟩:∃x,x=(ls.getD k aK).depth:=⟨_,rfl⟩;rw[<- hxn]at hlo hln hli;rw[<- hxd]at hlo;have HLI:Hid (LL.getD 0 []=q->(xn=0↔cs.getD k ⟨0,0⟩=cs.getD 0 ⟨0,0⟩)):=hli;generalize LL.getD k []=pk at *;subst hmq'
     have CR:Hid (∀W:World,SL W B5 own.length own->SL W D5 other.length other->SL W Bq pk.length pk->Calls Tryz.prog 26 #[.agg #[.int .i64 p,.int .i64 cN,.int .i64 hN,.int .i64 sN],.slice B5 own.length l5,.slice D5 other.length r5,.agg #[.int .i64 (a:Int),.int .i64 (b:Int)],.slice Bq pk.length cq] W fun e w'=>e = .returned (.tuple #[.agg #[.int .i64 xn,.int .i64 (xd:Int)],.int .i64 0])/\Below W.heap.size W w'):=fun W h1 h2 h3=>by
      have:=gu p cN hN sN a b B5 D5 Bq _ _ _ l5 r5 cq own other pk W h1 h2 h3 m5a m5b hmq;rw[hlo]at this;exact this
     have HSQ:=h_ hsq.1;have Q1:=h_ q1;have hgr:g1+1<wr.heap.size:=HR.out.lt;clear hlo hli hxn hxd hsq q1
     go_wp2_with (fail)
     refine aI 12 11 18 _ _ (.cells #[.int .i64 0,.int .i64 0] 35) (by kernel_rfl) (by kernel_rfl) rfl rfl rfl (fun _ _=>by kernel_rfl) rfl (aO _ _ _ _ rfl rfl) (fun _ _ _ _ h=>h) (by kernel_rfl) ?_
     apply Exists.intro
     refine⟨fun X hX=>?_,fun t1 t2=>?_⟩
     ·have hXb:Below wr.heap.size wr X:=by obtain⟨t0,rfl⟩:=hX;exact aa wr t0
      have XHV:=h_ (HV.out.below hXb);have XHR:=h_ (HR.out.below hXb);have XH1:=h_ (H1.out.below hXb);have XH2:=h_ (H2.out.below hXb);have XHSQ:=h_ (HSQ.out.below hXb);have y1:=ag Q1.out hXb;have y2:=World.block_lt_of_cell? X _ y1;clear hX hXb;have c0:=XHV.out.cell 0 _ rfl;have c1:=XHV.out.cell 1 _ rfl;have c2:=XHV.out.cell 2 _ rfl;have c3:=XHV.out.cell 3 _ rfl;have cz:=XHV.out.lt;have d0:=XHR.out.cell 0 _ rfl;have d1:=XHR.out.cell 1 _ rfl;have dz:=XHR.out.lt
      simp only[List.take_succ_cons,List.take_zero]
      repeat (first|go_big_quiet_step ((go_at_call 26;exact more_call (CR.out _ (XH1.out.more _) (XH2.out.more _) (XHSQ.out.more _))))|quiet_step ((go_at_call 26;exact more_call (CR.out _ (XH1.out.more _) (XH2.out.more _) (XHSQ.out.more _)))))
      exact wpQuiet_nil rfl
     simp only[List.drop_succ_cons,List.drop_zero,Act.put]
     have HBU:=h_ (cS wr t1 t2 (.cells #[.int .i64 0,.int .i64 0] 35));have HXU:Hid (Cel (more ((more wr t1).alloc (.cells #[.int .i64 0,.int .i64 0] 35)) t2) (more wr t1).heap.size [.int .i64 0,.int .i64 0]):=(Cel.new (more wr t1) #[.int .i64 0,.int .i64 0] 35).below (aa _ t2);have hbb:=au wr t1;generalize more ((more wr t1).alloc (.cells #[.int .i64 0,.int .i64 0] 35)) t2=U at *;generalize (more wr t1).heap.size=bb at *;have c0:=HXU.out.cell 0 _ rfl;have c1:=HXU.out.cell 1 _ rfl;have f0:=HXU.out.froz 0 _ rfl;have f1:=HXU.out.froz 1 _ rfl;have cz:=HXU.out.lt
     go_upto_region 22 with (fail)
     clear c0 c1 f0 f1 cz;have HX:Hid (Cel ((U.setCell ⟨bb,0,none⟩ (.int .i64 xn)).setCell ⟨bb,1,none⟩ (.int .i64 (xd:Int))) bb [.int .i64 xn,.int .i64 (xd:Int)]):=HXU.out.st2 (.int .i64 xn) (.int .i64 (xd:Int));have hb:=bel_set' (bel_set' HBU.out hbb (.int .i64 xn) (i:=0)) hbb (.int .i64 (xd:Int)) (i:=1);clear HXU HBU CR H1 H2;generalize (U.setCell ⟨bb,0,none⟩ (.int .i64 xn)).setCell ⟨bb,1,none⟩ (.int .i64 (xd:Int))=U2 at *;replace HV:=h_ (HV.out.below hb);replace HR:=h_ (HR.out.below hb);replace HB:=h_ (HB.out.trans (hb.mono HB.out.size));replace H3:=h_ (H3.out.below hb);replace HPL:=h_ (HPL.out.below hb);replace HEC:=h_ (HEC.out.below hb);replace HF:=h_ (HF.out.trans (Frm.of_below' _ hb));clear hb HSQ Q1
     have hbg:g1+1<bb:=by omega
     go_wp2_with (fail)
     have H1:=True.intro;have H2:=True.intro;have hgb:g1+1<U2.heap.size:=HR.out.lt
     refine (HD.out _ (HC.out.below HB.out)).mono ?_
     rintro e' wc ⟨v1,v2,rfl,h1,h2,hb⟩
     obtain⟨B6,l6,rfl,s1,m6a⟩:=h1.read;obtain⟨D6,r6,rfl,s2,m6b⟩:=h2.read;replace HV:=h_ (HV.out.below hb);replace HR:=h_ (HR.out.below hb);replace HB:=h_ (HB.out.trans (hb.mono HB.out.size));replace H3:=h_ (H3.out.below hb);replace HPL:=h_ (HPL.out.below hb);replace HEC:=h_ (HEC.out.below hb);replace HX:=h_ (HX.out.below hb);have HO1:=h_ h1;replace HF:=h_ (HF.out.trans (Frm.of_below' _ hb));have HO2:=h_ h2;clear h1 h2 s1 s2 hb H1 H2;have c0:=HV.out.cell 0 _ rfl;have c1:=HV.out.cell 1 _ rfl;have c2:=HV.out.cell 2 _ rfl;have c3:=HV.out.cell 3 _ rfl;have cz:=HV.out.lt;have d0:=HR.out.cell 0 _ rfl;have d1:=HR.out.cell 1 _ rfl;have dz:=HR.out.lt;have f0:=HV.out.froz 0 _ rfl;have f1:=HV.out.froz 1 _ rfl;have f2:=HV.out.froz 2 _ rfl;have f3:=HV.out.froz 3 _ rfl;have x0:=HR.out.froz 0 _ rfl;have x1:=HR.out.froz 1 _ rfl
     go_wp2_with (fail)
     clear c0 c1 c2 c3 cz;clear d0 d1 dz;clear f0 f1 f2 f3 x0 x1
     have hF:Frm (fun j=>j=g1\/j=g1+1) wc ((((((wc.setCell ⟨g1,0,none⟩ (.int .i64 p)).setCell ⟨g1,1,none⟩ (.int .i64 cN)).setCell ⟨g1,2,none⟩ (.int .i64 hN)).setCell ⟨g1,3,none⟩ (.int .i64 sN)).setCell ⟨g1+1,0,none⟩ (.int .i64 (a:Int))).setCell ⟨g1+1,1,none⟩ (.int .i64 (b:Int))):=jp wc g1 (.int .i64 p) (.int .i64 cN) (.int .i64 hN) (.int .i64 sN) (.int .i64 (a:Int)) (.int .i64 (b:Int))
     replace HF:=h_ (HF.out.trans hF)
     have HV':Hid (Cel ((((((wc.setCell ⟨g1,0,none⟩ (.int .i64 p)).setCell ⟨g1,1,none⟩ (.int .i64 cN)).setCell ⟨g1,2,none⟩ (.int .i64 hN)).setCell ⟨g1,3,none⟩ (.int .i64 sN)).setCell ⟨g1+1,0,none⟩ (.int .i64 (a:Int))).setCell ⟨g1+1,1,none⟩ (.int .i64 (b:Int))) g1 [.int .i64 p,.int .i64 cN,.int .i64 hN,.int .i64 sN]):=((HV.out.st4 (.int .i64 p) (.int .i64 cN) (.int .i64 hN) (.int .i64 sN)).far (by omega)).far (by omega)
     have HR':Hid (Cel ((((((wc.setCell ⟨g1,0,none⟩ (.int .i64 p)).setCell ⟨g1,1,none⟩ (.int .i64 cN)).setCell ⟨g1,2,none⟩ (.int .i64 hN)).setCell ⟨g1,3,none⟩ (.int .i64 sN)).setCell ⟨g1+1,0,none⟩ (.int .i64 (a:Int))).setCell ⟨g1+1,1,none⟩ (.int .i64 (b:Int))) (g1+1) [.int .i64 (a:Int),.int .i64 (b:Int)]):=((((HR.out.far (by omega)).far (by omega)).far (by omega)).far (by omega)).st2 (.int .i64 (a:Int)) (.int .i64 (b:Int))
     clear HV HR;have HV:=HV';have HR:=HR';clear HV' HR'
     replace HB:=h_ (HB.out.trans (hF.below HB.out.size (fun j hj=>by rcases hj with h|h<;>omega)))
     replace H3:=h_ (H3.out.frm hF);replace HPL:=h_ (HPL.out.frm hF);replace HEC:=h_ (HEC.out.frm hF)
     replace HX:=h_ (HX.out.frm hF (by rintro (h|h)<;>omega))
     replace HO1:=h_ (hF.own HO1.out (fun j hj h=>by have:=(HO1.out.lt j hj).1;rcases h with h|h<;>omega))
     replace HO2:=h_ (hF.own HO2.out (fun j hj h=>by have:=(HO2.out.lt j hj).1;rcases h with h|h<;>omega))
     clear hF;generalize (((((wc.setCell ⟨g1,0,none⟩ (.int .i64 p)).setCell ⟨g1,1,none⟩ (.int .i64 cN)).setCell ⟨g1,2,none⟩ (.int .i64 hN)).setCell ⟨g1,3,none⟩ (.int .i64 sN)).setCell ⟨g1+1,0,none⟩ (.int .i64 (a:Int))).setCell ⟨g1+1,1,none⟩ (.int .i64 (b:Int))=V6r at *;have H1:=h_ (HO1.out.sl rfl).1;have H2:=h_ (HO2.out.sl rfl).1;clear HO1 HO2 hgb;obtain⟨bc,oc,hAc,_,y1,y2⟩:=HEC.out.at hlt;subst hAc;obtain⟨bc',oc',hAc',_,y3,y4⟩:=HEC.out.at hnl0;injection hAc' with hAc';injection hAc' with hAc1 hAc2;subst hAc1 hAc2;generalize cs.getD k ⟨0,0⟩=yk at *;generalize cs.getD 0 ⟨0,0⟩=y0 at *;obtain⟨ykn,ykd⟩:=yk;obtain⟨y0n,y0d⟩:=y0
     (try simp only at y1 y2)
     (try simp only[Nat.zero_mul,Nat.add_zero,Nat.zero_add]at y3)
     (try simp only[Nat.zero_mul,Nat.add_zero,Nat.zero_add]at y4)
     obtain⟨bl0,ol0,Bz,mz,cz',hAz,_,y5,hsz,hmz⟩:=HPL.out.at hnl0;injection hAz with hAz;injection hAz with hAz1 hAz2;subst hAz1 hAz2
     (try simp only[Nat.add_zero]at y5)
     have hmz':(LL.getD 0 []).length=mz:=hsz.1.1
     have hp0:=HPL0.out 0 (by rw[HNL.out];exact hnl0)
     generalize LL.getD 0 []=pz at *;subst hmz';have HP0:=h_ hp0;clear hp0;have CL:=h_ (gm Bz (some ⟨b3,o3,none⟩) pz.length q.length cz' k3 pz q);have HSZ:=h_ hsz.1;clear hsz
     have hx0:¬xn<0:=by omega
     have c0:=HX.out.cell 0 _ rfl;have c1:=HX.out.cell 1 _ rfl;have cz:=HX.out.lt;have z1:=World.block_lt_of_cell? V6r _ y1;have z5:=World.block_lt_of_cell? V6r _ y5
     have hnli:(0:Int)<(nL:Int):=by omega
     by_cases hz:xn=0
     focus
      have bz:(xn == 0)=true:=by simp[hz]
      by_cases hy:(⟨ykn,ykd⟩:E)=⟨y0n,y0d⟩
      focus
       refine ?zi
      rotate_left
      focus
       refine ?zg
     rotate_left 2
     focus
      have bz:(xn == 0)=false:=by simp[hz]
      by_cases hy:(⟨ykn,ykd⟩:E)=⟨y0n,y0d⟩
      focus
       refine ?zj
      rotate_left
      focus
       refine ?zh
    rotate_left 4
    ·have hke:k=nL:=by omega
     clear HSL HF
     go_wp2_with (fail)
     go_ret
     exact⟨rfl,HB.out⟩
    case' zg|zh=>
     have ee:∀W:World,(binOp .eql 35 (.agg #[.int .i64 ykn,.int .i64 (ykd:Int)]) (.agg #[.int .i64 y0n,.int .i64 (y0d:Int)])).run Tryz.prog W = .ok (.bool false) W:=fun W=>by
      rw[fM];have h3:¬(ykn=y0n/\(ykd:Int)=(y0d:Int)):=fun h=>hy (by rw[h.1,show ykd=y0d by omega]);simp;exact fun h1 h2=>h3 ⟨h1,by omega⟩
    case' zg=>
     have hne:pz≠q:=fun h=>by
      have h2:=HLI.out h
      exact hy (h2.1 hz)
    case' zi|zj=>
     have ee:∀W:World,(binOp .eql 35 (.agg #[.int .i64 ykn,.int .i64 (ykd:Int)]) (.agg #[.int .i64 y0n,.int .i64 (y0d:Int)])).run Tryz.prog W = .ok (.bool true) W:=fun W=>by
      rw[fM];injection hy with hy1 hy2;simp[hy1,hy2]
    case' zj=>
     have hne:pz≠q:=fun h=>by
      have h2:=HLI.out h
      exact hz (h2.2 hy)
    case' zg|zj=>
     have CL2:Hid (∀W:World,SL W Bz pz.length pz->SL W (some ⟨b3,o3,none⟩) q.length q->Calls Tryz.prog 25 #[.slice Bz pz.length cz',.slice (some ⟨b3,o3,none⟩) q.length k3] W fun e w'=>e = .returned (.bool false)/\Below W.heap.size W w'):=fun W h1 h2=>by
      have h0:=CL.out W h1 h2 (by have:=HP0.out;omega) (by omega)
      rw[decide_eq_false hne]at h0
      exact h0.mono fun e w' ⟨he,t,ht⟩=>⟨he,by rw[ht];exact below_drewN' (Below.refl _ _) t⟩
     clear hy hne CL
     first|refine ab (by kernel_rfl) (by kernel_rfl) ?_|refine ac (by kernel_rfl) (by kernel_rfl) ?_
     repeat (first|go_big_quiet_step ((go_at_call 25;exact more_call (CL2.out _ (HSZ.out.more _) (H3.out.1.more _))))|quiet_step ((go_at_call 25;exact more_call (CL2.out _ (HSZ.out.more _) (H3.out.1.more _)))))
    case' zh|zi=>
     clear hy
     first|refine ab (by kernel_rfl) (by kernel_rfl) ?_|refine ac (by kernel_rfl) (by kernel_rfl) ?_
     repeat (first|go_big_quiet_step (fail)|quiet_step (fail))
    case zg|zj|zi|zh=>
     refine wpQuiet_nil ?_
     intro _ hw'
     obtain⟨tr,hw''⟩:=hw';subst hw'';replace HF:=h_ (HF.out.trans (Frm.of_below' _ (aa _ tr)));replace HV:=h_ (HV.out.below (aa _ tr));replace HR:=h_ (HR.out.below (aa _ tr));have HS2:Hid (SL (more V6r tr) B6 own.length own/\own.length<=l6/\SL (more V6r tr) D6 other.length other/\other.length<=r6):=⟨H1.out.below (aa _ tr),m6a,H2.out.below (aa _ tr),m6b⟩;clear y1 y2 y3 y4 y5 c0 c1 cz
     go_wp2_with (fail)
     go_roundw
     case rel=>exact⟨k+1,B6,l6,D6,r6,by omega,by go_num,rfl,rfl,HS2.out,HV.out,HR.out,HF.out⟩
     case measure=>(simp[intOf])<;>omega
 rotate_left 2
 ·have b1:(e1 != 0)=true:=by simp[h1]
  clear E1 h1
  go_wp2_with (fail)
  go_ret
  exact⟨rfl,HB.out⟩
 case' za|zb=>
  intro i o hi hX ho a' W hW hIW hfar hdep
  have e3:a'.tmps.getD 3 undef = .pointer (some ⟨g1,0,none⟩):=(hfar 3 (by decide)).trans rfl
  have e4:a'.tmps.getD 4 undef = .slice B2 own.length l2:=(hfar 4 (by decide)).trans rfl
  have e5:a'.tmps.getD 5 undef = .slice D2 other.length r2:=(hfar 5 (by decide)).trans rfl
  have e6:a'.tmps.getD 6 undef = .pointer (some ⟨g1+1,0,none⟩):=(hfar 6 (by decide)).trans rfl
  have e7:a'.tmps.getD 7 undef = .slice (some ⟨b3,o3,none⟩) q.length k3:=(hfar 7 (by decide)).trans rfl
  have dep:∀j,j<12->Region.waitsFor .any _ i j=true->GL [Eqv (.agg #[.int .i64 p,.int .i64 cN,.int .i64 hN,.int .i64 sN]),Eqv (.slice B2 own.length l2),Eqv (.slice D2 other.length r2),Eqv (.agg #[.int .i64 (a:Int),.int .i64 (b:Int)]),SliE V5.heap.size,Eqv (.slice (some ⟨b3,o3,none⟩) q.length k3),RowE (fun W b v=>OwnS W b 2 (v) q) V5.heap.size,Eqv (.tuple #[.agg #[.int .i64 0,.int .i64 0],.int .i64 0]),Eqv (.tuple #[.agg #[.int .i64 0,.int .i64 0],.int .i64 0]),Eqv (.agg #[.int .i64 0,.int .i64 0]),Eqv (.int .i64 0),AlcY V5.heap.size 35 [.int .i64 0,.int .i64 0]] j (a'.tmps.getD (dsLO j) undef) W:=hdep
 case za=>
  have hi8:i=10:=by simpa using hX
  clear hfar hdep hX hi;subst hi8
  simp at ho
  subst ho
  ·have d0:a'.tmps.getD 63 undef = .tuple #[.agg #[.int .i64 0,.int .i64 0],.int .i64 0]:=dep 8 (by omega) (by kernel_rfl)
   exact⟨.int .i64 0,fun W'=>by simp only[execOp,Act.eval,d0];go_simp,rfl⟩
 case zb=>
  have hi8:i=0\/i=1\/i=2\/i=3\/i=4\/i=5\/i=6\/i=7\/i=8\/i=9\/i=11:=by simp at hX;omega
  clear hfar hdep hX hi
  rcases hi8 with rfl|rfl|rfl|rfl|rfl|rfl|rfl|rfl|rfl|rfl|rfl
  all_goals (simp at ho;subst ho)
  ·have zz:=HV.out.below hW
   have z0:=zz.cell 0 _ rfl;have z1:=zz.cell 1 _ rfl;have z2:=zz.cell 2 _ rfl;have z3:=zz.cell 3 _ rfl
   exact .inl ⟨.agg #[.int .i64 p,.int .i64 cN,.int .i64 hN,.int .i64 sN],W,by simp only[execOp,Act.eval,e3];go_simp,Bel.rfl' _,trivial,rfl⟩
  ·exact .inl ⟨.slice B2 own.length l2,W,by simp only[execOp,Act.eval,e4];go_simp,Bel.rfl' _,trivial,rfl⟩
  ·exact .inl ⟨.slice D2 other.length r2,W,by simp only[execOp,Act.eval,e5];go_simp,Bel.rfl' _,trivial,rfl⟩
  ·have zz:=HR.out.below hW
   have z0:=zz.cell 0 _ rfl;have z1:=zz.cell 1 _ rfl
   exact .inl ⟨.agg #[.int .i64 (a:Int),.int .i64 (b:Int)],W,by simp only[execOp,Act.eval,e6];go_simp,Bel.rfl' _,trivial,rfl⟩
  ·exact .inl ⟨.slice (some ⟨W.heap.size,0,none⟩) 0 0,W.alloc (.cells #[] 2),by kernel_rfl,Bel.alloc _ _,trivial,W.heap.size,rfl,Below.size hW⟩
  ·exact .inl ⟨.slice (some ⟨b3,o3,none⟩) q.length k3,W,by simp only[execOp,Act.eval,e7];go_simp,Bel.rfl' _,trivial,rfl⟩
  ·obtain⟨b0,d1,hb0⟩:SliE V5.heap.size (a'.tmps.getD 68 undef) W:=dep 4 (by omega) (by kernel_rfl)
   have d2:a'.tmps.getD 69 undef = .slice (some ⟨b3,o3,none⟩) q.length k3:=dep 5 (by omega) (by kernel_rfl)
   obtain⟨u,W',hr,hbl,hou⟩:=app_fresh W V5.heap.size b0 q.length k3 ⟨b3,o3,none⟩ q rfl (fun j u hu=>sl_news (H3.out.1.below hW) j u hu) HQ0.out (by omega) (Below.size hW) 26
   exact .inl ⟨u,W',by simp only[execOp,resolve,invoke,builtin,Sem.run_bind,Sem.run_pure,Result.andThen_ok,List.map_toArray,List.map_cons,List.map_nil,Act.eval,d1,d2,hr],hbl,trivial,_,Nat.le_refl _,hou⟩
  ·have d0:a'.tmps.getD 64 undef = .agg #[.int .i64 p,.int .i64 cN,.int .i64 hN,.int .i64 sN]:=dep 0 (by omega) (by kernel_rfl)
   have d1:a'.tmps.getD 65 undef = .slice B2 own.length l2:=dep 1 (by omega) (by kernel_rfl)
   have d2:a'.tmps.getD 66 undef = .slice D2 other.length r2:=dep 2 (by omega) (by kernel_rfl)
   have d3:a'.tmps.getD 67 undef = .agg #[.int .i64 (a:Int),.int .i64 (b:Int)]:=dep 3 (by omega) (by kernel_rfl)
   obtain⟨bs,hbs,ho⟩:RowE (fun W b v=>OwnS W b 2 (v) q) V5.heap.size (a'.tmps.getD 70 undef) W:=dep 6 (by omega) (by kernel_rfl)
   obtain⟨Ad,cd,hd,sd,md⟩:=ho.read
   refine .inr ⟨26,#[.agg #[.int .i64 p,.int .i64 cN,.int .i64 hN,.int .i64 sN],.slice B2 own.length l2,.slice D2 other.length r2,.agg #[.int .i64 (a:Int),.int .i64 (b:Int)],.slice Ad q.length cd],by simp only[execOp,Act.eval,d0,d1,d2,d3,hd];go_simp,?_⟩
   refine (CRL.out _ _ _ _ _ _ W (H1.out.below hW) (H2.out.below hW) sd m2a m2b md).mono ?_
   rintro e W' ⟨rfl,hb'⟩
   exact⟨_,rfl,hb',trivial,rfl⟩
  ·have d0:a'.tmps.getD 71 undef = .tuple #[.agg #[.int .i64 0,.int .i64 0],.int .i64 0]:=dep 7 (by omega) (by kernel_rfl)
   exact .inl ⟨.tuple #[.agg #[.int .i64 0,.int .i64 0],.int .i64 0],W,by simp only[execOp,Act.eval,d0];go_simp,Bel.rfl' _,trivial,rfl⟩
  ·have d0:a'.tmps.getD 63 undef = .tuple #[.agg #[.int .i64 0,.int .i64 0],.int .i64 0]:=dep 8 (by omega) (by kernel_rfl)
   exact .inl ⟨.agg #[.int .i64 0,.int .i64 0],W,by simp only[execOp,Act.eval,d0];go_simp,Bel.rfl' _,trivial,rfl⟩
  ·exact .inl ⟨.pointer (some ⟨W.heap.size,0,none⟩),W.alloc (.cells #[.int .i64 0,.int .i64 0] 35),by kernel_rfl,Bel.alloc _ _,trivial,alcY_new _ _ _ (Below.size hW)⟩
end Go.Proofs.YtkaiilmgemaljaaGreat

/- Part of one proof. There are no conditions. -/
import Derived.Test.YtcmeoenkgmghkaaGreatWY8
import Derived.Test.YtcmeoenkgmghkaaGreatWY11
set_option maxHeartbeats 0
set_option linter.unusedVariables false
set_option linter.unusedSimpArgs false
set_option maxRecDepth 100000
namespace Go.Proofs.YtcmeoenkgmghkaaGreat
open Go.Value renaming slice->a,int->z,bool->D,agg->E,pointer->F
open Go.IntKind renaming i64->r
open Go.Obj renaming cells->B
open Go.Ending renaming returned->I
open Go.RowKit Ps
theorem Tryz.infoL:(Tryz.prog.info? 24).map (fun i=>(i.zero,i.size,i.bytes))=some (some (a none 0 0),1,24):=by kernel_rfl
theorem PV.own {S:Nat->Prop} {W:World} {base:Nat} {e:TypeId} {v:Value} {xs:List Int} (h:OwnS W base e v xs) (hS:∀k,base<=k->¬S k):PV S W v xs:=by
 obtain⟨A,c,hv,hs,hc⟩:=h.read
 refine⟨A,_,c,hv,⟨hs,fun hn b off s hA=>?_⟩,hc⟩
 refine hS b (h.lt b ?_).1
 rw[hv,hA];rfl
theorem OP.lt {S:Nat->Prop} {w:World} {base:Nat} {e:TypeId} {v:Value} {ps:List (List Int)} (h:OP S w base e v ps):∀k,v.ownBlock=some k->base<=k/\k<w.heap.size:=let ⟨_,h1,_⟩:=h;World.ownsRow.lt h1
theorem aJ (A:Option Addr) (n c:Nat):∀u∈[Value.slice A n c],u.oneCell'=true:=fun u hu=>by simp at hu;subst hu;rfl
theorem fo (A:Option Addr) (n c:Nat) (xs:List Int) (w:World) (hx:SL w A n xs) (hn:n<=2000000) (hn0:0<n):
  Calls Tryz.prog 193 #[a A n c] w fun e w'=>∃g c',e = I (a (some ⟨g,0,none⟩) n c')/\OwnS w' w.heap.size 2 (a (some ⟨g,0,none⟩) n c') xs/\w.heap.size<=g/\g<w'.heap.size/\
   (∀j,j<n->w'.cell? ⟨g,j,none⟩=some (.int r (xs.getD j 0)))/\(∀j,w'.frozen? ⟨g,j,none⟩=false)/\Below w.heap.size w w':=by
 refine (eT A n c xs w hx hn).mono ?_
 rintro e w' ⟨A',c',he,ho,hb⟩
 have hl:=hx.1;rw[hl]at he ho;obtain⟨g,hA,h1,h2,h3,h4⟩:=ao ho hn0;subst hA
 exact⟨g,c',he,ho,h1,h2,h3,h4,hb⟩
theorem gn {p:List Int} {d k:Nat} (h:¬canP p k d):aM p d (k+1)=aM p d k:=by rw[aM,if_neg h,List.append_nil]
theorem dK {p:List Int} {d k:Nat} (h:canP p k d):aM p d (k+1)=aM p d k++[aD p k d]:=by rw[aM,if_pos h]
theorem stepTo_in {p:List Int} {k d:Nat} (h:d<=k):aD p k d=(p.set k (p.getD k 0-1)).set (k-d) (p.getD (k-d) 0+1):=if_pos h
theorem dL {p:List Int} {k d:Nat} (h:¬d<=k):aD p k d=p.set k (p.getD k 0-1):=if_neg h
theorem ck {p:List Int} {d:Nat}:∀k,(aM p d k).length<=k
 | 0=>Nat.le_refl _
 | k + 1 => by
   have := ck (p := p) (d := d) k
   rw [aM]; split <;> simp <;> omega
theorem dq {p:List Int} (k:Nat) (h0:∀x∈p,0<=x):p.getD k 0<=p.sum:=by
 by_cases hk:k<p.length
 ·have h1:=bM p k hk
  have h2:=bc p k h0;have h3:=cj p (k+1) h0
  omega
 ·have h1:p.getD k 0=0:=by simp[List.getD,List.getElem?_eq_none (by omega:p.length<=k)]
  have h2:=fw h0
  omega
theorem iQ (S:Nat->Prop) (A:Option Addr) (n c d:Nat) (p:List Int) (w:World) (hx:SL w A n p) (h0:∀x∈p,0<=x) (hs:p.sum<=15) (hn:n<=24) (hn0:0<n) (hd1:1<=d) (hd6:d<=6) (hS:∀k,w.heap.size<=k->¬S k):
  Calls Tryz.prog 234 #[a A n c,.int r d] w fun e w'=>∃v,e = I v/\OP S w' w.heap.size 24 v (aw p d)/\Below w.heap.size w w':=by
 obtain⟨i0,hi,hz0,hz1,hz2⟩:=info_parts Tryz.infoL;have HX:=h_ hx;have HL:=h_ hx.1;have H0:=h_ h0;have HS:=h_ hs;have HSS:=h_ hS
 have HTOP:Hid (∀k,k<n->p.getD k 0≠0->(topI p n=(k:Int)↔(p.drop (k+1)).sum=0)):=fun k hk hc=>by
  have:=topI_last h0 (show k<p.length by rw[HL.out];exact hk) hc
  rwa [HL.out]at this
 clear hx h0 hs hS
 go_enter Tryz.func234,Tryz.ntmps234
 go_wp2_with (fail)
 refine (cH A n c p _ (by exact HX.out) (by omega)).mono ?_
 rintro e w' ⟨rfl,rfl⟩
 have ht : -1<=topI p n/\topI p n<=24:=by
  rcases dI (p:=p) (k:=n) with⟨h1,_⟩|⟨i,h1,h2,_⟩<;>omega
 generalize topI p n=top at *
 go_wp2_with (fail)
 go_loopw [5,14] (fun vo vi wr=>∃k:Nat,k<=n/\vi = .int r k/\(∃vx,vx=vo/\OP S wr w.heap.size 24 vx (aM p d k))/\Below w.heap.size w wr) (fun _ vi _=>n-(intOf vi).toNat)
 case atStart=>exact⟨0,by omega,rfl,⟨_,rfl,OP.nil_ _ _ _ _⟩,Below.refl _ _⟩
 case round=>
  obtain⟨k,hk,rfl,⟨vx,rfl,hO⟩,hb⟩:=hrel;have HO:=h_ hO;have HB:=h_ hb;clear hO hb
  by_cases hlt:k<n
  focus
   have hki:(k:Int)<(n:Int):=by omega
   have HXr:Hid (SL wr A n p):=HX.out.below HB.out
   obtain⟨b,off,rfl,_,hcl⟩:=HXr.out.2 (by omega)
   have hcell:=hcl k hlt
   have hpx:=H0.out _ (aZ p k (by rw[HL.out];exact hlt))
   have hpm:=dq k H0.out;have hps:=HS.out
   have HLN:Hid ((aM p d k).length<=24):=by unfold Hid;have:=ck (p:=p) (d:=d) k;omega
   clear hcl;obtain⟨x,hx⟩:∃x:Int,p.getD k 0=x:=⟨_,rfl⟩;rw[hx]at hcell hpx hpm
   have hx15:x<=15:=by omega
   clear hpm hps
   by_cases hx0:x=0
   focus
    have HST:Hid (aM p d (k+1)=aM p d k):=gn fun h=>h.1 (by rw[hx,hx0])
    subst hx0
    refine ?zf
   rotate_left
   focus
    have b0:(x == 0)=false:=by simp[hx0]
    have HT:Hid (top=(k:Int)↔(p.drop (k+1)).sum=0):=HTOP.out k hlt (by rw[hx];exact hx0)
    by_cases hdk:(k:Int)+1<d
    focus
     have b1:decide ((k:Int)+1<(d:Int))=true:=decide_eq_true hdk
     by_cases htk:top=k
     focus
      have b2:((k:Int) != top)=false:=by simp[htk]
      have hcan:canP p k d:=⟨by rw[hx];exact hx0,.inr (HT.out.1 htk)⟩
      have b3:decide ((d:Int)<=k)=false:=decide_eq_false (by omega)
      have HST:Hid (aM p d (k+1)=aM p d k++[aD p k d]):=dK hcan
      have HSP:Hid (aD p k d=p.set k (x-1)):=by rw[<- hx];exact dL (by omega)
      clear htk
      refine ?za
     rotate_left
     focus
      have b2:((k:Int) != top)=true:=by simp;omega
      have HST:Hid (aM p d (k+1)=aM p d k):=gn fun h=>by
       rcases h.2 with h'|h'
       ·omega
       ·exact htk (HT.out.2 h')
      refine ?zg
    rotate_left 2
    focus
     have b1:decide ((k:Int)+1<(d:Int))=false:=decide_eq_false hdk
     have hcan:canP p k d:=⟨by rw[hx];exact hx0,.inl (by omega)⟩
     have HST:Hid (aM p d (k+1)=aM p d k++[aD p k d]):=dK hcan
     by_cases hle:d<=k
     focus
      have b3:decide ((d:Int)<=k)=true:=decide_eq_true (by omega)
      have HSP:Hid (aD p k d=(p.set k (x-1)).set (k-d) (p.getD (k-d) 0+1)):=by rw[<- hx];exact stepTo_in hle
      have hsub:((k:Int)-(d:Int))=((k-d:Nat):Int):=by omega
      have hy0:=H0.out _ (aZ p (k-d) (by rw[HL.out];omega))
      have hy1:=dq (k-d) H0.out;have hps:=HS.out
      refine ?ze
     rotate_left
     focus
      have b3:decide ((d:Int)<=k)=false:=decide_eq_false (by omega)
      have HSP:Hid (aD p k d=p.set k (x-1)):=by rw[<- hx];exact dL hle
      refine ?zb
  rotate_left 5
  ·have hkn:k=n:=by omega
   subst hkn
   go_wp2_with (fail)
   go_ret
   exact⟨_,rfl,by unfold aw;rw[HL.out];exact HO.out,HB.out⟩
  case' ze|za|zb=>
   go_wp2_with (fail)
   refine (fo _ n c p wr (by exact HXr.out) (by omega) (by omega)).mono ?_
   rintro e w1 ⟨g,c1,rfl,ho,hg1,hg2,hcl,hfz,hb⟩
   have d1:=hcl k (by omega)
  case' ze=>
   have d2:=hfz k;rw[hx]at d1
   have d3:=hcl (k-d) (by omega)
   have d4:=hfz (k-d);generalize p.getD (k-d) 0=y at *
   have hy15:y<=15:=by omega
   have hne:¬k-d=k:=by omega
   have hne2:¬k=k-d:=by omega
   have HOW:=h_ ((ho.stored k (x-1)).stored (k-d) (y+1));clear hcl hfz;have HW:Hid (Below wr.heap.size wr ((w1.setCell ⟨g,k,none⟩ (.int r (x-1))).setCell ⟨g,k-d,none⟩ (.int r (y+1)))):=stw (stw hb hg1) hg1
   have HOS:Hid (OwnS ((w1.setCell ⟨g,k,none⟩ (.int r (x-1))).setCell ⟨g,k-d,none⟩ (.int r (y+1))) wr.heap.size 2 (a (some ⟨g,0,none⟩) n c1) (aD p k d)):=by rw[HSP.out];exact HOW.out
  case' za|zb=>
   have d2:=hfz k;rw[hx]at d1;have HOW:=h_ (ho.stored k (x-1));clear hcl hfz;have HW:Hid (Below wr.heap.size wr (w1.setCell ⟨g,k,none⟩ (.int r (x-1)))):=stw hb hg1
   have HOS:Hid (OwnS (w1.setCell ⟨g,k,none⟩ (.int r (x-1))) wr.heap.size 2 (a (some ⟨g,0,none⟩) n c1) (aD p k d)):=by rw[HSP.out];exact HOW.out
  case' ze|za|zb=>
   obtain⟨cs,hrow,hpv,hv3⟩:=HO.out;have HROW:=h_ (row_alloc (own_below hrow HW.out) (B #[a (some ⟨g,0,none⟩) n c1] 24));have HPV:=h_ ((hpv.frm (Frm.of_below' _ HW.out)).frm ((Frm.refl (wth S vx) _).alloc (B #[a (some ⟨g,0,none⟩) n c1] 24)));have hlt:=h_ (HO.out.lt)
  case' ze=>
   have HPE:Hid (PVs (wth S vx) (((w1.setCell ⟨g,k,none⟩ (.int r (x-1))).setCell ⟨g,k-d,none⟩ (.int r (y+1))).alloc (B #[a (some ⟨g,0,none⟩) n c1] 24)) [a (some ⟨g,0,none⟩) n c1] [aD p k d]):=
    PVs.one ((PV.own (HOS.out.alloc' _) fun q hq=>by
     rintro (h'|h')
     ·exact HSS.out q (by have:=HB.out.size;omega) h'
     ·have:=(hlt.out q h').2;omega))
   have HNW:Hid (∀j u,[Value.slice (some ⟨g,0,none⟩) n c1][j]? = some u->(((w1.setCell ⟨g,k,none⟩ (.int r (x-1))).setCell ⟨g,k-d,none⟩ (.int r (y+1))).alloc (B #[a (some ⟨g,0,none⟩) n c1] 24)).cell? ((⟨w1.heap.size,0,none⟩:Addr).add j)=some u):=by
    have h:=one_new ((w1.setCell ⟨g,k,none⟩ (.int r (x-1))).setCell ⟨g,k-d,none⟩ (.int r (y+1))) (a (some ⟨g,0,none⟩) n c1) 24
    rw[show ((w1.setCell ⟨g,k,none⟩ (.int r (x-1))).setCell ⟨g,k-d,none⟩ (.int r (y+1))).heap.size=w1.heap.size by simp]at h
    exact h
  case' za|zb=>
   have HPE:Hid (PVs (wth S vx) ((w1.setCell ⟨g,k,none⟩ (.int r (x-1))).alloc (B #[a (some ⟨g,0,none⟩) n c1] 24)) [a (some ⟨g,0,none⟩) n c1] [aD p k d]):=
    PVs.one ((PV.own (HOS.out.alloc' _) fun q hq=>by
     rintro (h'|h')
     ·exact HSS.out q (by have:=HB.out.size;omega) h'
     ·have:=(hlt.out q h').2;omega))
   have HNW:Hid (∀j u,[Value.slice (some ⟨g,0,none⟩) n c1][j]? = some u->((w1.setCell ⟨g,k,none⟩ (.int r (x-1))).alloc (B #[a (some ⟨g,0,none⟩) n c1] 24)).cell? ((⟨w1.heap.size,0,none⟩:Addr).add j)=some u):=by
    have h:=one_new (w1.setCell ⟨g,k,none⟩ (.int r (x-1))) (a (some ⟨g,0,none⟩) n c1) 24
    rw[show (w1.setCell ⟨g,k,none⟩ (.int r (x-1))).heap.size=w1.heap.size by simp]at h
    exact h
  case ze|za|zb=>
   clear hrow hpv hv3
   go_wp2_with (at_builtin;(refine wpList_append_own_at _ rfl _ _ 186 rfl w.heap.size 24 i0 (a none 0 0) 1 24 Tryz.underlying186 hi hz0 hz1 hz2 rfl (by decide) _ _ _ rfl HROW.out ⟨w1.heap.size,0,none⟩ 1 1 [a (some ⟨g,0,none⟩) n c1] rfl rfl HNW.out (aJ _ _ _) (by have:=HLN.out;unfold maxLen;omega) (by have:=HLN.out;omega) (by have h1:=HB.out.size;have h2:=HW.out.size;simp;omega) ?_;intro v' w2 hown hgrow _ hat))
   have HO2:Hid (OP S w2 w.heap.size 24 v' (aM p d k++[aD p k d])):=OP.grew HPV.out HPE.out hown rfl hgrow hat HSS.out
   have HB2:Hid (Below w.heap.size w w2):=((HB.out.trans (HW.out.mono HB.out.size)).alloc (by have h1:=HB.out.size;have h2:=HW.out.size;omega) _).grown hgrow (by have h1:=HB.out.size;have h2:=HW.out.size;simp;omega) (fun q hq=>by have:=HROW.out;exact (World.ownsRow.lt this q hq).1)
   clear hown hgrow hat
   go_wp2_with (fail)
   go_roundw
   case rel=>exact⟨k+1,by omega,by go_num,⟨_,rfl,by rw[HST.out];exact HO2.out⟩,HB2.out⟩
   case measure=>(simp[intOf])<;>omega
  case zf|zg=>
   go_wp2_with (fail)
   go_roundw
   case rel=>exact⟨k+1,by omega,by go_num,⟨_,rfl,by rw[HST.out];exact HO.out⟩,HB.out⟩
   case measure=>(simp[intOf])<;>omega
open Go.RowKit Pl
theorem Frm.outs' {S O:Nat->Prop} {w wr w2:World} (h:Frm S w wr) (hf:Frm O wr w2) (hO:∀k,O k->S k\/w.heap.size<=k):Frm S w w2:=
 ⟨hf.os.trans h.os,hf.tape.trans h.tape,hf.output.trans h.output,Nat.le_trans h.size hf.size,fun k hk hn=>(hf.block k (Nat.lt_of_lt_of_le hk h.size) (fun ho=>(hO k ho).elim hn (fun h9=>absurd hk (by omega)))).trans (h.block k hk hn)⟩
theorem OPl.wide {S S':Nat->Prop} {w:World} {m base:Nat} {e:TypeId} {v:Value} {bs:List Bd} (h:OPl S w m base e v bs) (hS:∀k,S' k->S k\/w.heap.size<=k):OPl S' w m base e v bs:=by
 obtain⟨cs,h1,h2,h3⟩:=h
 refine⟨cs,h1,h2.set (fun k hk=>?_),fun k hk hs=>?_⟩
 ·rcases hk with hk|hk
  ·exact (hS k hk).elim (fun h=>.inl (.inl h)) .inr
  ·exact .inl (.inr hk)
 ·rcases hS k hs with h9|h9
  ·exact h3 k hk h9
  ·have:=(World.ownsRow.lt h1 k hk).2;omega
theorem OPl.lt {S:Nat->Prop} {w:World} {m base:Nat} {e:TypeId} {v:Value} {bs:List Bd} (h:OPl S w m base e v bs):∀k,v.ownBlock=some k->base<=k/\k<w.heap.size/\¬S k:=fun k hk=>by
 obtain⟨cs,h1,h2,h3⟩:=h
 exact⟨(World.ownsRow.lt h1 k hk).1,(World.ownsRow.lt h1 k hk).2,h3 k hk⟩
theorem lg (die:Nat):∀(l:List Stp) (k:Nat),k<l.length->(stCs die l).getD (k*4) undef = .int r ((l.getD k ⟨0,0,false⟩).src:Int)/\(stCs die l).getD (k*4+1) undef = .int r (l.getD k ⟨0,0,false⟩).dst/\(stCs die l).getD (k*4+2) undef = .int r (die:Int)/\(stCs die l).getD (k*4+3) undef = D (l.getD k ⟨0,0,false⟩).hit
 | [],k,h=>absurd h (by simp)
 | x::l,0,_=>⟨rfl,rfl,rfl,rfl⟩
 | x :: l, k + 1, h => by
   have h1 := lg die l k (by simpa using h)
   have e : stCs die (x :: l) = stC die x ++ stCs die l := by simp [stCs]
   have e4 : ∀ j, (stCs die (x :: l)).getD ((k + 1) * 4 + j) undef = (stCs die l).getD (k * 4 + j) undef := fun j => by
     rw [e, aK _ _ _ (by simp [stC]; omega)]
     congr 1
     simp [stC]; omega
   have e0 := e4 0; rw [Nat.add_zero, Nat.add_zero] at e0; rw [List.getD_cons_succ, e0, e4 1, e4 2, e4 3]
   exact h1
theorem OPl.grew2 {S:Nat->Prop} {w w1:World} {m base:Nat} {e:TypeId} {v v':Value} {cs ds:List Value} {bs qs:List Bd} {k:Nat} (hp:PEs (wth S v) w m cs bs) (hq:PEs (wth S v) w m ds qs) (hown:w1.ownsRow base e 3 v' (bs.length+k) (cs++ds)) (hk:k=qs.length)
  (hg:w.grownBy w1 v.ownBlock) (hat:v'.ownBlock=v.ownBlock\/v'.ownBlock=some w.heap.size) (hv:∀k,v.ownBlock=some k->¬S k) (hn:¬S w.heap.size):OPl S w1 m base e v' (bs++qs):=by
 subst hk
 refine⟨cs++ds,by rw[List.length_append];exact hown,?_,fun k hk=>?_⟩
 ·have h1:=(hp.append hq).set (S':=fun k=>wth S v k\/wth S v' k) fun k hk=>hk.elim .inl (jf hat k)
  exact (h1.frm ((dt hg).mono fun k hk=>.inl hk)).set fun k hk=>.inl (.inr hk)
 ·rcases hat with h|h
  ·exact hv k (by rw[<- h];exact hk)
  ·rw[h]at hk;injection hk with hk;rw[<- hk];exact hn
theorem Cel.frmP {S:Nat->Prop} {W W':World} {g:Nat} {cs:List Value} (h:Cel W g cs) (hf:Frm S W W') (hn:¬S g):Cel W' g cs:=
 ⟨Nat.lt_of_lt_of_le h.lt hf.size,fun i x hx=>hf.cell' (h.cell i x hx) hn,fun i x hx=>(World.frozen?_of_block (hf.block g h.lt hn)).trans (h.froz i x hx)⟩
theorem Tryz.infoPl:(Tryz.prog.info? 85).map (fun i=>(i.zero,i.size,i.bytes))=some (some (E #[a none 0 0,a none 0 0,a none 0 0]),3,72):=by kernel_rfl
def RetPl (w:World) (m:Nat) (l:List Bd) (e:Ending) (w':World):Prop:=∃A k,e = I (a A l.length k)/\PLs (fun k=>k<w.heap.size) w' m A l.length l/\l.length<=k/\Below w.heap.size w w'
theorem goOn_any (P h die C m:Nat) (c s:Int) (A:Option Addr) (n cp:Nat) (bs:List Bd) (w:World) (hx:PLs (fun _=>False) w m A n bs) (hsd:∀b∈bs,Sd P C b) (hC:C<=255) (hP:P<=900) (hd1:1<=die) (hd2:die<=1000) (hh:h<=1000) (hnP:n*(P+1)<=1000000) (hm:m<=1000):
  Calls Tryz.prog 221 #[(E #[.int r (P:Int),.int r c,.int r (h:Int),.int r s]),a A n cp,.int r (die:Int)] w (RetPl w (m+1) (nextB P h die bs)):=by
 obtain⟨i0,hi,iz0,iz1,iz2⟩:=info_parts Tryz.infoSt;obtain⟨j0,hj,jz0,jz1,jz2⟩:=info_parts Tryz.infoPl;have hn6:n<=1000000:=Nat.le_trans (Nat.le_mul_of_pos_right n (Nat.succ_pos P)) hnP;have HX:=h_ hx;have HLN:=h_ hx.len
 have HSD:Hid (∀i,i<n->Sd P C (bs.getD i ([],[]))/\bs.getD i ([],[])∈bs):=fun i hi=>by
  have h1:=aj bs ([],[]) (k:=i) (by rw[hx.len];exact hi)
  exact⟨hsd _ h1,h1⟩
 have HUL:Hid ((cands P h die bs).length<maxLen):=by
  have h1:=cands_len P h die bs;rw[hx.len]at h1
  unfold Hid maxLen;omega
 have HSUB:Hid (∀i,i<=n->(nextF P h die [] (bs.take i)).length<=1000000):=fun i hi=>by
  have h1:=de (p:=P) (h:=h) (die:=die) (k:=P+1) (bs:=bs.take i) (out:=[]) (fun _ _=>cM)
  have h2:(bs.take i).length<=n:=by rw[List.length_take,hx.len];omega
  have h3:=Nat.mul_le_mul_right (P+1) h2
  simp only[List.length_nil,Nat.zero_add]at h1
  omega
 have HF:Hid (Fr w ((w.alloc (B #[.int r (P:Int),.int r c,.int r (h:Int),.int r s] 33)).alloc (.map #[] 0)) [[.int r (P:Int),.int r c,.int r (h:Int),.int r s]]):=((Fr.start w).allocT (by simp) _ _).alloc _
 have HS:Hid (SeenM ((w.alloc (B #[.int r (P:Int),.int r c,.int r (h:Int),.int r s] 33)).alloc (.map #[] 0)) (w.heap.size+1) (cands P h die bs) P C (nextF P h die [] (bs.take 0))):=by
  have h9:=SeenM.made (w.alloc (B #[.int r (P:Int),.int r c,.int r (h:Int),.int r s] 33)) (cands P h die bs) P C
  rw[show (w.alloc (B #[.int r (P:Int),.int r c,.int r (h:Int),.int r s] 33)).heap.size=w.heap.size+1 by simp]at h9
  exact h9
 clear hx hsd;have hmm:=@run_makeMap Tryz.prog
 go_enter Tryz.func221,Tryz.ntmps221
 go_wp2_with (fail)
 clear hmm
 go_loopw [8,19] (fun v8 v19 wr=>∃(i:Nat),i<=n/\v19 = .int r i/\(∃vx,vx=v8/\Hid (OPl (fun k=>k<w.heap.size+2) wr (m+1) (w.heap.size+2) 85 vx (nextF P h die [] (bs.take i))))/\Hid (SeenM wr (w.heap.size+1) (cands P h die bs) P C (nextF P h die [] (bs.take i)))/\Hid (Fr w wr [[.int r (P:Int),.int r c,.int r (h:Int),.int r s]])) (fun _ v19 _=>n-(intOf v19).toNat)
 case atStart=>exact⟨0,by omega,rfl,⟨_,rfl,OPl.nil_ _ _ _ _ _⟩,HS.out,HF.out⟩
 case round=>
  clear HF HS;obtain⟨i,hin,rfl,⟨vx,rfl,HO⟩,HS,HF⟩:=hrel
  by_cases hlt:i<n
  ·have hki:(i:Int)<(n:Int):=by omega
   obtain⟨b,off,A0,n0,c0,A1,n1,c1,A2,n2,c2,hA,hbl,_,y0,y1,y2,⟨vs,q0,q1,q2,q3⟩,p1,m1,p2,m2⟩:=HX.out.at hlt;have HFB:=Frm.of_below HF.out.b;have z0:=HFB.cell' y0 id;have z1:=HFB.cell' y1 id;have z2:=HFB.cell' y2 id
   have HNF:Hid (nextF P h die [] (bs.take (i+1))=nextI P (bs.getD i ([],[])) (nextF P h die [] (bs.take i)) (legal P h (bs.getD i ([],[])) die)):=ky (by rw[HLN.out];exact hlt)
   have HSDi:=h_ (HSD.out i hlt).1;have HBM:=h_ (HSD.out i hlt).2;obtain⟨⟨own,other⟩,hbb⟩:∃bb,bb=bs.getD i ([],[]):=⟨_,rfl⟩;rw[<- hbb]at p1 p2 HNF HSDi HBM;clear hbb y0 y1 y2 HFB;subst hA
   have HQS:Hid (SLZ 4 (fun _=>False) w A0 n0 vs/\n0<=m/\∀x∈vs,x.oneCell'=true):=⟨q0,q2,q3⟩
   have HL1:Hid (n1=P+1):=by have:=p1.1.1;have:=HSDi.out.len1;unfold Hid;simp at *;omega
   have HL2:Hid (n2=P+1):=by have:=p2.1.1;have:=HSDi.out.len2;unfold Hid;simp at *;omega
   have HP1:Hid (∀W:World,Below w.heap.size w W->SL W A1 n1 own):=fun W hw=>p1.1.below hw
   have HP2:Hid (∀W:World,Below w.heap.size w W->SL W A2 n2 other):=fun W hw=>p2.1.below hw
   have hn0:n0<=1000:=by omega
   have CLS:Hid (∀W:World,Below w.heap.size w W->Calls Tryz.prog 229 #[(E #[.int r (P:Int),.int r c,.int r (h:Int),.int r s]),E #[a A1 n1 c1,a A2 n2 c2],.int r (die:Int)] W (RetSt W die (legal P h (own,other) die))):=fun W hw=>by
    have hsd:=HSDi.out
    exact j5 P h die c s A1 A2 n1 c1 n2 c2 own other W (HP1.out W hw) (HP2.out W hw) HL1.out HL2.out (by omega) hd1 hd2 hh hsd.1.2.1 hsd.2.2.1 (by have:=hsd.1.2.2;simp at this;omega) (by have:=hsd.2.2.2;simp at this;omega)
   have hgz:w.heap.size+2<=wr.heap.size:=HS.out.lt;clear q0 q1 q2 q3 p1 p2 m1 m2
   have z0:=HF.out.l0 (by simp)
   have c00:=HF.out.c0 0 rfl;have f00:=HF.out.f0 0 rfl;have c01:=HF.out.c0 1 rfl;have f01:=HF.out.f0 1 rfl;have c02:=HF.out.c0 2 rfl;have f02:=HF.out.f0 2 rfl;have c03:=HF.out.c0 3 rfl;have f03:=HF.out.f0 3 rfl
   go_wp2_with (fail)
   clear z0 c00 f00 c01 f01 c02 f02 c03 f03;have HBP:Hid (Below wr.heap.size wr (wr.alloc (B #[a A0 n0 c0,a A1 n1 c1,a A2 n2 c2] 85))):=(Below.refl _ _).alloc (Nat.le_refl _) _;have HC0:=h_ (Cel.new wr #[a A0 n0 c0,a A1 n1 c1,a A2 n2 c2] 85);have HFp:=h_ (HF.out.below HBP.out)
   refine (CLS.out _ HFp.out.b).mono ?_
   rintro e w2 ⟨v9,rfl,hst,hb2⟩
   have hz2:wr.heap.size+1<=w2.heap.size:=by have:=hb2.size;simpa using this
   have HBw2:Hid (Below wr.heap.size wr w2):=HBP.out.trans (hb2.mono HBP.out.size);have HF2:=h_ (HF.out.below HBw2.out);have HC2:=h_ (HC0.out.below hb2);have HS2:=h_ (HS.out.below HBw2.out)
   have HO2:Hid (OPl (fun k=>k<w.heap.size+2\/(wr.heap.size<=k/\k<w2.heap.size)) w2 (m+1) (w.heap.size+2) 85 vx (nextF P h die [] (bs.take i))):=(HO.out.wide (fun k hk=>hk.imp id (fun h=>h.1))).below HBw2.out
   obtain⟨A9,c9,hv9,hr9,hc9⟩:=bz (S:=fun k=>k<wr.heap.size) hst (fun k hk h=>by have:=(World.ownsRow.lt hst k hk).1;simp at this;omega) (by omega)
   subst hv9
   have HR9:Hid (SLZ 4 (fun k=>w.heap.size+1<=k/\k<wr.heap.size) w2 A9 (legal P h (own,other) die).length (stCs die (legal P h (own,other) die))):=hr9.set fun k hk=>.inl hk.2
   clear hst hr9 hb2 HBP HC0 HFp HO HS CLS;generalize hL:legal P h (own,other) die=L at *;have HL:=h_ hL;have HOL:=h_ (HSUB.out i hin);generalize hOUT:nextF P h die [] (bs.take i)=OUT at *
   have hLl:L.length<=P+1:=by rw[<- hL];exact cM
   clear hL hOUT
   go_wp2_with (fail)
   obtain⟨wo,rfl⟩:∃wo:World,wo=wr:=⟨_,rfl⟩
   go_loopw [8,29] (fun v8 v29 wr=>∃(k:Nat),k<=L.length/\v29 = .int r k/\(∃vy,vy=v8/\Hid (OPl (fun k=>k<w.heap.size+2\/(wo.heap.size<=k/\k<w2.heap.size)) wr (m+1) (w.heap.size+2) 85 vy (nextI P (own,other) OUT (L.take k))))/\Hid (SeenM wr (w.heap.size+1) (cands P h die bs) P C (nextI P (own,other) OUT (L.take k)))/\Hid (Frm (fun k=>w.heap.size+1<=k/\k<wo.heap.size) w2 wr)) (fun _ v29 _=>L.length-(intOf v29).toNat)
   case atStart=>exact⟨0,by omega,rfl,⟨_,rfl,HO2.out⟩,HS2.out,Frm.refl _ _⟩
   case round=>
    clear HO2 HS2;obtain⟨k,hkL,rfl,⟨vy,rfl,HO⟩,HS,HFX⟩:=hrel
    have HBi:Hid (Below w.heap.size w wr):=HF2.out.b.trans (HFX.out.below HF2.out.b.size (fun k hk=>by omega))
    have hzi:w2.heap.size<=wr.heap.size:=HFX.out.size
    by_cases hlt2:k<L.length
    ·have hkj:(k:Int)<(L.length:Int):=by omega
     obtain⟨src,hsrc,hst,_⟩:=jE (p:=P) (h:=h) (b:=(own,other)) (die:=die) (s:=L.getD k ⟨0,0,false⟩) (by rw[HL.out];exact aj L _ hlt2)
     have HNI:Hid (nextI P (own,other) OUT (L.take (k+1))=addN (nextI P (own,other) OUT (L.take k)) (aV P (own,other) (L.getD k ⟨0,0,false⟩))):=kx hlt2
     have HCA:Hid (aV P (own,other) (L.getD k ⟨0,0,false⟩)∈cands P h die bs):=mem_cands HBM.out (by rw[HL.out];exact aj L _ hlt2)
     have HAS:Hid (Sd P C (aV P (own,other) (L.getD k ⟨0,0,false⟩))):=ma HSDi.out hst hsrc hd1;obtain⟨g1,g2,g3,g4⟩:=lg die L k hlt2
     obtain⟨b9,o9,hA9,hb9,hs9,hcell⟩:=HR9.out.2 (by omega)
     have x0:=HFX.out.cell' (hcell (k*4) (by omega)) hs9
     have x1:=HFX.out.cell' (hcell (k*4+1) (by omega)) hs9
     have x2:=HFX.out.cell' (hcell (k*4+2) (by omega)) hs9
     have x3:=HFX.out.cell' (hcell (k*4+3) (by omega)) hs9
     rw[g1]at x0;rw[g2]at x1;rw[g3]at x2;rw[g4]at x3;rw[<- Nat.add_assoc]at x1 x2 x3;obtain⟨st,hst9⟩:∃st,st=L.getD k ⟨0,0,false⟩:=⟨_,rfl⟩;rw[<- hst9]at hst HNI HCA HAS x0 x1 x3
     have CAS:Hid (∀W:World,Below w.heap.size w W->Calls Tryz.prog 230 #[(E #[.int r (P:Int),.int r c,.int r (h:Int),.int r s]),E #[a A1 n1 c1,a A2 n2 c2],stVal st die] W (RetBq W (aV P (own,other) st).1 (aV P (own,other) st).2)):=fun W hw=>
      me P src die h st c h s C A1 A2 n1 c1 n2 c2 own other W (HP1.out W hw) (HP2.out W hw) HSDi.out (by omega) hP hsrc hd1 hst
     obtain⟨nx,hnx⟩:∃nx,nx=aV P (own,other) st:=⟨_,rfl⟩;rw[<- hnx]at CAS HNI HCA HAS;obtain⟨ss,sd,sh⟩:=st;have CAS2:Hid (∀W:World,Below w.heap.size w W->Calls Tryz.prog 230 #[(E #[.int r (P:Int),.int r c,.int r (h:Int),.int r s]),E #[a A1 n1 c1,a A2 n2 c2],E #[.int r (ss:Int),.int r sd,.int r (die:Int),D sh]] W (RetBq W nx.1 nx.2)):=CAS.out
     simp only at x0 x1 x2 x3
     have z0:=HFX.out.cell' (HC2.out.cell 0 _ rfl) (by omega)
     have z1:=HFX.out.cell' (HC2.out.cell 1 _ rfl) (by omega)
     have z2:=HFX.out.cell' (HC2.out.cell 2 _ rfl) (by omega)
     have HFi:Hid (Fr w wr [[.int r (P:Int),.int r c,.int r (h:Int),.int r s]]):=HF2.out.frm HFX.out (fun k hk=>by omega) (fun k hk=>by simp;omega)
     clear g1 g2 g3 g4 hcell hst hst9 hnx CAS HL;subst hA9
     have hwo:wo.heap.size<wr.heap.size:=by omega
     have hwo2:wo.heap.size≠wr.heap.size:=by omega
     have z0:=HFi.out.l0 (by simp)
     have c00:=HFi.out.c0 0 rfl;have f00:=HFi.out.f0 0 rfl;have c01:=HFi.out.c0 1 rfl;have f01:=HFi.out.f0 1 rfl;have c02:=HFi.out.c0 2 rfl;have f02:=HFi.out.f0 2 rfl;have c03:=HFi.out.c0 3 rfl;have f03:=HFi.out.f0 3 rfl
     go_wp2_with (fail)
     have HBs:Hid (Below wr.heap.size wr (wr.alloc (B #[.int r (ss:Int),.int r sd,.int r (die:Int),D sh] 242))):=(Below.refl _ _).alloc (Nat.le_refl _) _;have HCs:=h_ (Cel.new wr #[.int r (ss:Int),.int r sd,.int r (die:Int),D sh] 242)
     refine (CAS2.out _ (HBi.out.trans (HBs.out.mono HBi.out.size))).mono ?_
     rintro e w3 ⟨g1,k1,g2,k2,rfl,ho1,ho2,_,hb3⟩
     have hz3:wr.heap.size+1<=w3.heap.size:=by have:=hb3.size;simpa using this
     have HB3:Hid (Below wr.heap.size wr w3):=HBs.out.trans (hb3.mono HBs.out.size);have HC3:=h_ (HCs.out.below hb3);have HBb:Hid (Below w3.heap.size w3 (w3.alloc (B #[a (some ⟨g1,0,none⟩) nx.1.length k1,a (some ⟨g2,0,none⟩) nx.2.length k2] 35))):=(Below.refl _ _).alloc (Nat.le_refl _) _;have HCb:=h_ (Cel.new w3 #[a (some ⟨g1,0,none⟩) nx.1.length k1,a (some ⟨g2,0,none⟩) nx.2.length k2] 35)
     have hzo:(wr.alloc (B #[.int r (ss:Int),.int r sd,.int r (die:Int),D sh] 242)).heap.size=wr.heap.size+1:=by simp
     rw[hzo]at ho1 ho2
     have HG1:Hid (∀W:World,Below w3.heap.size w3 W->OwnS W (wr.heap.size+1) 2 (a (some ⟨g1,0,none⟩) nx.1.length k1) nx.1):=fun W hw=>own_below ho1 hw
     have HG2:Hid (∀W:World,Below w3.heap.size w3 W->OwnS W (wr.heap.size+1) 2 (a (some ⟨g2,0,none⟩) nx.2.length k2) nx.2):=fun W hw=>own_below ho2 hw
     obtain⟨kv,hkv⟩:∃kv,kv=keyV nx:=⟨_,rfl⟩
     have CBK:Hid (∀W:World,Below w3.heap.size w3 W->Calls Tryz.prog 171 #[E #[a (some ⟨g1,0,none⟩) nx.1.length k1,a (some ⟨g2,0,none⟩) nx.2.length k2]] W fun e w'=>e = I kv/\Below W.heap.size W w'):=fun W hw=>by
      have h9:=iL (some ⟨g1,0,none⟩) (some ⟨g2,0,none⟩) nx.1.length k1 nx.2.length k2 nx.1 nx.2 W ((HG1.out W hw).sl rfl).1 ((HG2.out W hw).sl rfl).1 (dw HAS.out.1 hC) (dw HAS.out.2 hC) (by rw[HAS.out.len1];omega) (by rw[HAS.out.len2];omega)
      rw[hkv]
      exact h9
     have HKV:=h_ hkv;clear ho1 ho2 hb3 hkv HBs HCs CAS2 hzo x0 x1 x2 x3 z0 z1 z2;clear z0 c00 f00 c01 f01 c02 f02 c03 f03
     go_wp2_with (fail)
     refine (CBK.out _ HBb.out).mono ?_
     rintro e w4 ⟨rfl,hb4⟩
     have HB34:Hid (Below w3.heap.size w3 w4):=HBb.out.trans (hb4.mono HBb.out.size);have HCb4:=h_ (HCb.out.below hb4);have HC4:=h_ (HC3.out.below HB34.out);have HB4:Hid (Below wr.heap.size wr w4):=HB3.out.trans (HB34.out.mono HB3.out.size);have HS4:=h_ (HS.out.below HB4.out);have HO4:=h_ (HO.out.below HB4.out)
     have HFX4:Hid (Frm (fun k=>w.heap.size+1<=k/\k<wo.heap.size) w2 w4):=HFX.out.trans (Frm.of_below' _ HB4.out)
     have hz4:w3.heap.size+1<=w4.heap.size:=by have:=hb4.size;simpa using this
     have HVY:=h_ HO.out.lt
     have hlk:=HS4.out.look (b:=nx) (by omega) HAS.out
     rw[<- HKV.out]at hlk;clear hb4 HB3 HBb HCb CBK HS HO HFX HC3
     by_cases hin2:nx∈nextI P (own,other) OUT (L.take k)
     ·have HE:Hid (nextI P (own,other) OUT (L.take (k+1))=nextI P (own,other) OUT (L.take k)):=by unfold Hid;rw[HNI.out,mg hin2]
      rw[show decide (nx∈nextI P (own,other) OUT (L.take k))=true from decide_eq_true hin2]at hlk
      clear hin2
      go_wp2_with (fail)
      exact⟨⟨k+1,by omega,by go_num,⟨vy,rfl,by rw[HE.out];exact HO4.out⟩,by rw[HE.out];exact HS4.out,HFX4.out⟩,by simp[intOf];omega⟩
     ·have HE:Hid (nextI P (own,other) OUT (L.take (k+1))=nextI P (own,other) OUT (L.take k)++[nx]):=by unfold Hid;rw[HNI.out,jc hin2]
      rw[show decide (nx∈nextI P (own,other) OUT (L.take k))=false from decide_eq_false hin2]at hlk
      obtain⟨w5,hup,hs5,hg5⟩:=HS4.out.store (b:=nx) hC (by omega) HAS.out HCA.out HUL.out
      rw[<- HKV.out]at hup;have HS5:=h_ hs5;have hz5:w4.heap.size<=w5.heap.size:=hg5.size
      have HF45:Hid (Frm (fun k=>k=w.heap.size+1) w4 w5):=(Frm.of_grown hg5).mono fun k hk=>by injection hk
      have HFX5:Hid (Frm (fun k=>w.heap.size+1<=k/\k<wo.heap.size) w2 w5):=HFX4.out.trans (HF45.out.mono fun k hk=>by omega)
      have HO5:Hid (OPl (fun k=>k<w.heap.size+2\/(wo.heap.size<=k/\k<w2.heap.size)) w5 (m+1) (w.heap.size+2) 85 vy (nextI P (own,other) OUT (L.take k))):=HO4.out.frm (HF45.out.mono fun k hk=>.inl (by omega))
      have HC5:Hid (Cel w5 wo.heap.size [a A0 n0 c0,a A1 n1 c1,a A2 n2 c2]):=HC2.out.frmP HFX5.out (by omega)
      have HCs5:Hid (Cel w5 wr.heap.size [.int r (ss:Int),.int r sd,.int r (die:Int),D sh]):=HC4.out.frmP HF45.out (by omega)
      have HCb5:Hid (Cel w5 w3.heap.size [a (some ⟨g1,0,none⟩) nx.1.length k1,a (some ⟨g2,0,none⟩) nx.2.length k2]):=HCb4.out.frmP HF45.out (by omega)
      have HG15:Hid (OwnS w5 (wr.heap.size+1) 2 (a (some ⟨g1,0,none⟩) nx.1.length k1) nx.1):=HF45.out.own (HG1.out w4 HB34.out) (fun k hk h9=>by have:=(World.ownsRow.lt (HG1.out w4 HB34.out) k hk).1;omega)
      have HG25:Hid (OwnS w5 (wr.heap.size+1) 2 (a (some ⟨g2,0,none⟩) nx.2.length k2) nx.2):=HF45.out.own (HG2.out w4 HB34.out) (fun k hk h9=>by have:=(World.ownsRow.lt (HG2.out w4 HB34.out) k hk).1;omega)
      have HBw5:Hid (Below w.heap.size w w5):=HF2.out.b.trans (HFX5.out.below HF2.out.b.size (fun k hk=>by omega))
      clear hin2 hs5 hg5 HS4 HO4 HFX4
      go_wp2_with (fail)
      clear hlk hup
      refine cT 11 (fun _=>false) (fun i=>i+45) (JG w5 242 (appC (F (some ⟨wo.heap.size,0,none⟩)) (a A0 n0 c0) (.int r (n0:Int)) (.int r ((n0:Int)+1)) (E #[.int r (ss:Int),.int r sd,.int r (die:Int),D sh])) vs [.int r (ss:Int),.int r sd,.int r (die:Int),D sh] n0) (by kernel_rfl) (by kernel_rfl) (fun _ _ _ _ _ h=>h) (fun vs'=>JG.start _ _ _ _ _ _ _) (fun i o' _ hX=>by cases hX) ?_ ?_
      ·intro i o hi9 _ ho L9 a' W HJ hLi hfar hdep
       have e10:a'.tmps.getD 10 undef = F (some ⟨wo.heap.size,0,none⟩):=(hfar 10 (fun j _=>by omega)).trans rfl
       have e12:a'.tmps.getD 12 undef = F (some ⟨wr.heap.size,0,none⟩):=(hfar 12 (fun j _=>by omega)).trans rfl
       have hi8:=i_10 hi9
       clear hfar
       rcases hi8 with rfl|rfl|rfl|rfl|rfl|rfl|rfl|rfl|rfl|rfl|rfl
       all_goals (simp at ho;subst ho)
       ·exact .inl ⟨F (some ⟨wo.heap.size,0,none⟩),W,by simp only[execOp,Act.eval,e10];go_simp,fun L2 v2 hu=>HJ.pure hu (by omega) (fun y hy=>by simp only[appC]at hy;injection hy)⟩
       ·have l0:L9 0=true:=dp hdep 0
        have d0:a'.tmps.getD 45 undef = F (some ⟨wo.heap.size,0,none⟩):=HJ.k 0 (by omega) l0 _ rfl
        have y0:=(HC5.out.below HJ.b).cell 0 _ rfl
        exact .inl ⟨a A0 n0 c0,W,by simp only[execOp,Act.eval,d0];go_simp,fun L2 v2 hu=>HJ.pure hu (by omega) (fun y hy=>by simp only[appC]at hy;injection hy)⟩
       ·have l1:L9 1=true:=dp hdep 1
        have d1:a'.tmps.getD 46 undef = a A0 n0 c0:=HJ.k 1 (by omega) l1 _ rfl
        exact .inl ⟨.int r (n0:Int),W,by simp only[execOp,Act.eval,d1];go_simp,fun L2 v2 hu=>HJ.pure hu (by omega) (fun y hy=>by simp only[appC]at hy;injection hy)⟩
       ·have l2:L9 2=true:=dp hdep 2
        have d2:a'.tmps.getD 47 undef = .int r (n0:Int):=HJ.k 2 (by omega) l2 _ rfl
        exact .inl ⟨.int r ((n0:Int)+1),W,by simp only[execOp,Act.eval,d2];go_simp;first|done|(simp[IntKind.wrap,IntKind.bits,IntKind.signed];omega),fun L2 v2 hu=>HJ.pure hu (by omega) (fun y hy=>by simp only[appC]at hy;injection hy)⟩
       ·have l3:L9 3=true:=dp hdep 3
        have d3:a'.tmps.getD 48 undef = .int r ((n0:Int)+1):=HJ.k 3 (by omega) l3 _ rfl
        obtain⟨W',hrun,hown,hgr⟩:=run_make_own (P:=Tryz.prog) W w5.heap.size 83 242 i0 (E #[.int r 0,.int r 0,.int r 0,D false]) 4 Tryz.underlying83 hi iz0 iz1 r r (n0+1) (by rw[iz2];omega) (by unfold maxLen;omega) HJ.b.size
        rw[show (((n0+1:Nat)):Int)=(n0:Int)+1 by omega]at hrun
        exact .inl ⟨a (some ⟨W.heap.size,0,none⟩) 0 (n0+1),W',by simp only[execOp,Act.eval,d3,Sem.run_bind,hrun,Result.andThen_ok,Sem.run_pure],fun L2 v2 hu=>HJ.make hu hLi rfl hown hgr rfl⟩
       ·exact .inl ⟨F (some ⟨wo.heap.size,0,none⟩),W,by simp only[execOp,Act.eval,e10];go_simp,fun L2 v2 hu=>HJ.pure hu (by omega) (fun y hy=>by simp only[appC]at hy;injection hy)⟩
       ·have l5:L9 5=true:=dp hdep 5
        have d5:a'.tmps.getD 50 undef = F (some ⟨wo.heap.size,0,none⟩):=HJ.k 5 (by omega) l5 _ rfl
        have y0:=(HC5.out.below HJ.b).cell 0 _ rfl
        exact .inl ⟨a A0 n0 c0,W,by simp only[execOp,Act.eval,d5];go_simp,fun L2 v2 hu=>HJ.pure hu (by omega) (fun y hy=>by simp only[appC]at hy;injection hy)⟩
       ·have l4:L9 4=true:=dp hdep 4
        have l6:L9 6=true:=dp hdep 6
        have d6:a'.tmps.getD 51 undef = a A0 n0 c0:=HJ.k 6 (by omega) l6 _ rfl
        have h7:L9 7=false:=hLi;have hr4:W.ownsRow w5.heap.size 242 4 (a'.tmps.getD 49 undef) 0 []:=HJ.r4 l4 h7
        obtain⟨v',W',hrun,hown,hgr,hat⟩:=cU (P:=Tryz.prog) W w5.heap.size 83 83 242 i0 (E #[.int r 0,.int r 0,.int r 0,D false]) 4 32 Tryz.underlying83 hi iz0 iz1 iz2 rfl (by decide) _ 0 [] hr4 (fun _=>False) A0 n0 c0 vs ((HQS.out.1.frm (Frm.of_below (HBw5.out.trans (HJ.b.mono HBw5.out.size))))) HQS.out.2.2 (by unfold maxLen;omega) (by omega) HJ.b.size
        rw[Nat.zero_add,List.nil_append]at hown
        exact .inl ⟨v',W',by simp only[execOp,Act.eval,d6,resolve,invoke,builtin,Sem.run_bind,Sem.run_pure,Result.andThen_ok,List.map_toArray,List.map_cons,List.map_nil,hrun],fun L2 v2 hu=>HJ.app1 hu h7 l4 rfl hown hgr hat⟩
       ·have y0:=(HCs5.out.below HJ.b).cell 0 _ rfl
        have y1:=(HCs5.out.below HJ.b).cell 1 _ rfl;have y2:=(HCs5.out.below HJ.b).cell 2 _ rfl;have y3:=(HCs5.out.below HJ.b).cell 3 _ rfl
        exact .inl ⟨E #[.int r (ss:Int),.int r sd,.int r (die:Int),D sh],W,by simp only[execOp,Act.eval,e12];go_simp,fun L2 v2 hu=>HJ.pure hu (by omega) (fun y hy=>by simp only[appC]at hy;injection hy)⟩
       ·have l8:L9 8=true:=dp hdep 8
        have d8:a'.tmps.getD 53 undef = E #[.int r (ss:Int),.int r sd,.int r (die:Int),D sh]:=HJ.k 8 (by omega) l8 _ rfl
        have d8':=d8;rw[Array.getD_eq_getD_getElem?]at d8'
        exact .inl ⟨a (some ⟨W.heap.size,0,none⟩) 1 1,W.alloc (B #[.int r (ss:Int),.int r sd,.int r (die:Int),D sh] 242),by simp only[execOp,Act.eval,d8];go_simp,fun L2 v2 hu=>HJ.bsl hu hLi rfl _⟩
       ·have l7:L9 7=true:=dp hdep 7
        have l9:L9 9=true:=dp hdep 9
        have h10:L9 10=false:=hLi;have hr7:W.ownsRow w5.heap.size 242 4 (a'.tmps.getD 52 undef) n0 vs:=HJ.r7 l7 h10;obtain⟨g,d9,hg1,hg2,hg3,_,_⟩:=HJ.s9 l9 h10;replace d9:a'.tmps.getD 54 undef = a (some ⟨g,0,none⟩) 1 1:=d9
        obtain⟨v',W',hrun,hown,hgr,hat⟩:=cU (P:=Tryz.prog) W w5.heap.size 83 83 242 i0 (E #[.int r 0,.int r 0,.int r 0,D false]) 4 32 Tryz.underlying83 hi iz0 iz1 iz2 rfl (by decide) _ n0 vs hr7 (fun _=>False) (some ⟨g,0,none⟩) 1 1 [.int r (ss:Int),.int r sd,.int r (die:Int),D sh] ⟨rfl,fun _=>⟨g,0,rfl,hg2,id,hg3⟩⟩ (fun u hu=>by simp at hu;rcases hu with rfl|rfl|rfl|rfl<;>rfl) (by unfold maxLen;omega) (by omega) HJ.b.size
        exact .inl ⟨v',W',by simp only[execOp,Act.eval,d9,resolve,invoke,builtin,Sem.run_bind,Sem.run_pure,Result.andThen_ok,List.map_toArray,List.map_cons,List.map_nil,hrun],fun L2 v2 hu=>HJ.app2 hu h10 l7 l9 rfl hown hgr⟩
      ·intro L9 v W hall HJ
       have hr:=HJ.r10 (hall 10 (by omega))
       have HBJ:=h_ HJ.b;clear hall HJ;have hzW:w5.heap.size<=W.heap.size:=HBJ.out.size
       have hfar:∀k,w2.heap.size<=k->wr.heap.size<=k->¬wth (fun k=>k<w.heap.size+2\/(wo.heap.size<=k/\k<w2.heap.size)) vy k:=fun k h1 h2 h3=>by
        rcases h3 with h3|h3
        ·rcases h3 with h3|h3<;>omega
        ·have:=(HVY.out k h3).2.1;omega
       obtain⟨Az,cz,hvz,hrz,hcz⟩:=bz (S:=wth (fun k=>k<w.heap.size+2\/(wo.heap.size<=k/\k<w2.heap.size)) vy) hr (fun k hk=>by have:=(World.ownsRow.lt hr k hk).1;exact hfar k (by omega) (by omega)) (by omega)
       simp only[List.drop_succ_cons,List.drop_zero,putV,hvz,Act.put]
       rw[hvz]at hr;clear hvz;have HCW:=h_ (HCb5.out.below HBJ.out);obtain⟨cs,hrow,hpe,hnb⟩:=HO5.out.below HBJ.out;have HROW:Hid ((W.alloc (B #[a Az (n0+1) cz,a (some ⟨g1,0,none⟩) nx.1.length k1,a (some ⟨g2,0,none⟩) nx.2.length k2] 85)).ownsRow (w.heap.size+2) 85 3 vy (nextI P (own,other) OUT (L.take k)).length cs):=World.ownsRow.alloc hrow _
       have HPV:Hid (PEs (wth (fun k=>k<w.heap.size+2\/(wo.heap.size<=k/\k<w2.heap.size)) vy) (W.alloc (B #[a Az (n0+1) cz,a (some ⟨g1,0,none⟩) nx.1.length k1,a (some ⟨g2,0,none⟩) nx.2.length k2] 85)) (m+1) cs (nextI P (own,other) OUT (L.take k))):=hpe.frm ((Frm.refl _ _).alloc _)
       have HPE:Hid (PEs (wth (fun k=>k<w.heap.size+2\/(wo.heap.size<=k/\k<w2.heap.size)) vy) (W.alloc (B #[a Az (n0+1) cz,a (some ⟨g1,0,none⟩) nx.1.length k1,a (some ⟨g2,0,none⟩) nx.2.length k2] 85)) (m+1) [a Az (n0+1) cz,a (some ⟨g1,0,none⟩) nx.1.length k1,a (some ⟨g2,0,none⟩) nx.2.length k2] [nx]):=by
        refine PEs.one ⟨⟨Az,n0+1,cz,_,rfl,hrz.frm ((Frm.refl _ W).alloc _),hcz,by have:=HQS.out.2.1;omega,fun x hx=>?_⟩,PV.own (OwnS.alloc (own_below HG15.out HBJ.out) _) (fun k hk=>hfar k (by omega) (by omega)),PV.own (OwnS.alloc (own_below HG25.out HBJ.out) _) (fun k hk=>hfar k (by omega) (by omega))⟩
        rcases List.mem_append.1 hx with h9|h9
        ·exact HQS.out.2.2 x h9
        ·simp at h9;rcases h9 with rfl|rfl|rfl|rfl<;>rfl
       have HNB:=h_ hnb
       have HKL:Hid ((nextI P (own,other) OUT (L.take k)).length<=1001000):=by
        have h1:=gD (p:=P) (b:=(own,other)) (l:=L.take k) (out:=OUT)
        have h2:(L.take k).length<=L.length:=by rw[List.length_take];omega
        have:=HOL.out
        unfold Hid;omega
       have HNW:Hid (∀j u,[a Az (n0+1) cz,a (some ⟨g1,0,none⟩) nx.1.length k1,a (some ⟨g2,0,none⟩) nx.2.length k2][j]? = some u->(W.alloc (B #[a Az (n0+1) cz,a (some ⟨g1,0,none⟩) nx.1.length k1,a (some ⟨g2,0,none⟩) nx.2.length k2] 85)).cell? ((⟨W.heap.size,0,none⟩:Addr).add j)=some u):=fun j u hj=>by
        have h9:=(Cel.new W #[a Az (n0+1) cz,a (some ⟨g1,0,none⟩) nx.1.length k1,a (some ⟨g2,0,none⟩) nx.2.length k2] 85).cell j u hj;unfold Addr.add
        split
        ·rename_i h0;rw[h0]at h9;exact h9
        ·rw[Nat.zero_add];exact h9
       have x0:=HCW.out.cell 0 _ rfl;have x1:=HCW.out.cell 1 _ rfl;have xz:=HCW.out.lt;have HSW:=h_ (HS5.out.below HBJ.out)
       have HFXW:Hid (Frm (fun k=>w.heap.size+1<=k/\k<wo.heap.size) w2 W):=HFX5.out.trans (Frm.of_below' _ HBJ.out)
       clear hr hrz hrow hpe hnb hfar HCW HCb5 HCs5 HC5 HO5 HFX5 HS5 HB34 HC4 HCb4 HB4
       go_wp2_with (at_builtin;(refine wpList_append_own_at _ rfl _ _ 79 rfl (w.heap.size+2) 85 j0 (E #[a none 0 0,a none 0 0,a none 0 0]) 3 72 Tryz.underlying79 hj jz0 jz1 jz2 rfl (by decide) _ _ _ rfl HROW.out ⟨W.heap.size,0,none⟩ 1 1 [a Az (n0+1) cz,a (some ⟨g1,0,none⟩) nx.1.length k1,a (some ⟨g2,0,none⟩) nx.2.length k2] rfl rfl HNW.out (fun u hu=>by simp at hu;rcases hu with rfl|rfl|rfl<;>rfl) (by have:=HKL.out;unfold maxLen;omega) (by have:=HKL.out;omega) (by simp;omega) ?_);intro v' w6 hown hgrow _ hat)
       have hzA:(W.alloc (B #[a Az (n0+1) cz,a (some ⟨g1,0,none⟩) nx.1.length k1,a (some ⟨g2,0,none⟩) nx.2.length k2] 85)).heap.size=W.heap.size+1:=by simp
       have HO6:Hid (OPl (fun k=>k<w.heap.size+2\/(wo.heap.size<=k/\k<w2.heap.size)) w6 (m+1) (w.heap.size+2) 85 v' (nextI P (own,other) OUT (L.take (k+1)))):=by
        unfold Hid;rw[HE.out]
        refine OPl.grew2 HPV.out HPE.out hown rfl hgrow hat HNB.out (fun h9=>?_)
        rw[hzA]at h9
        rcases h9 with h9|h9<;>omega
       have HS6:Hid (SeenM w6 (w.heap.size+1) (cands P h die bs) P C (nextI P (own,other) OUT (L.take (k+1)))):=by
        unfold Hid;rw[HE.out]
        exact (HSW.out.below ((Below.refl _ _).alloc (Nat.le_refl _) _)).frm (Frm.of_grown hgrow) (fun h9=>by have:=(HVY.out _ h9.symm).1;omega)
       have HFX6:Hid (Frm (fun k=>w.heap.size+1<=k/\k<wo.heap.size) w2 w6):=(HFXW.out.alloc _).outs' (Frm.of_grown hgrow) (fun k hk=>by
        obtain⟨q1,q2,q3⟩:=HVY.out k hk.symm
        have q4:¬(wo.heap.size<=k/\k<w2.heap.size):=fun h9=>q3 (.inr h9)
        omega)
       clear hown hgrow hat HNW HNB HPE HPV HROW HFXW HSW hzA
       exact⟨⟨k+1,by omega,by go_num,⟨v',rfl,HO6⟩,HS6,HFX6⟩,by simp[intOf];omega⟩
    ·have hge:¬(k:Int)<(L.length:Int):=by omega
     have HEK:Hid (nextI P (own,other) OUT (L.take k)=nextF P h die [] (bs.take (i+1))):=by
      unfold Hid
      rw[HNF.out,List.take_of_length_le (by omega)]
     have HFi:Hid (Fr w wr [[.int r (P:Int),.int r c,.int r (h:Int),.int r s]]):=HF2.out.frm HFX.out (fun k hk=>by omega) (fun k hk=>by simp;omega)
     have HO7:Hid (OPl (fun k=>k<w.heap.size+2) wr (m+1) (w.heap.size+2) 85 vy (nextF P h die [] (bs.take (i+1)))):=by
      unfold Hid;rw[<- HEK.out]
      exact HO.out.set fun k hk=>.inl hk
     have HS7:Hid (SeenM wr (w.heap.size+1) (cands P h die bs) P C (nextF P h die [] (bs.take (i+1)))):=by
      unfold Hid;rw[<- HEK.out]
      exact HS.out
     clear HO HS HEK HNF
     go_wp2_with (fail)
     exact⟨⟨i+1,by omega,by go_num,⟨vy,rfl,HO7⟩,HS7,HFi⟩,by simp[intOf];omega⟩
  ·have hge:¬(i:Int)<(n:Int):=by omega
   have HE:Hid (nextF P h die [] (bs.take i)=nextB P h die bs):=by
    unfold Hid
    rw[List.take_of_length_le (by rw[HLN.out];omega)];rfl
   have HR:Hid (RetPl w (m+1) (nextB P h die bs) (I vx) wr):=by
    rw[<- HE.out]
    obtain⟨A9,c9,hv9,hp9,hc9⟩:=(HO.out.set (S':=fun k=>k<w.heap.size) (fun k hk=>by show k<_;have:k<w.heap.size:=hk;omega)).read
    exact⟨A9,c9,by rw[hv9],hp9,hc9,HF.out.b⟩
   clear HE HO
   go_wp2_with (fail)
   go_ret
   exact HR.out
end Go.Proofs.YtcmeoenkgmghkaaGreat

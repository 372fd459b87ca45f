/- Part of one proof. There are no conditions. -/
import Derived.Test.YtcmeoenkgmghkaaGreatON20
set_option maxHeartbeats 0
set_option linter.unusedVariables false
set_option linter.unusedSimpArgs false
set_option maxRecDepth 100000
open Go.Value renaming int->o,slice->F
open Go.IntKind renaming i64->I
open Go.Obj renaming cells->J
open Go.Ending renaming returned->K
open Go renaming World->jz,Value->j1,Calls->qa
open Nat renaming le_refl->qb,le_trans->qc
open Go.RowKit.Below renaming refl->qd
open Go.World.ownsRow renaming lt->qe
open List renaming take_of_length_le->qf,length_append->qg
open Go.Proofs.Tryz renaming prog->qh
namespace Go.Proofs.YtcmeoenkgmghkaaGreat
open Go.RowKit Ps
theorem PVs.slices{S:Nat->Prop}{w:jz}{cs:List j1}{ps:List (List Int)}(h:PVs S w cs ps):∀u∈cs,u.oneCell'=true:=by
 intro u hu
 obtain⟨i,hi,rfl⟩:=List.getElem_of_mem hu;obtain⟨A,n,c,he,_⟩:=h.2 i hi
 have:cs.getD i undef=cs[i]:=by simp[List.getD,hi]
 rw[this]at he
 rw[he];rfl
theorem SLZ.news{S:Nat->Prop}{w w':jz}{b off n:Nat}{cs:List j1}(h:SLZ 1 S w (some ⟨b,off,none⟩) n cs)(hb:Below w.heap.size w w')(lo k:Nat):
  ∀j u,((cs.drop lo).take k)[j]? =some u->w'.cell? ((⟨b,off+lo,none⟩:Addr).add j)=some u:=by
 intro j u hu
 have hj:lo+j<cs.length/\j<k:=by
  have:=(List.getElem?_eq_some_iff.1 hu).1
  simp at this;omega
 have hl:=h.1
 obtain⟨b',off',hA,hlt,_,hc⟩:=h.2 (by omega)
 injection hA with hA;injection hA with h1 h2 h3;subst h1 h2
 have e:cs.getD (lo+j) undef=u:=by
  rw[List.getElem?_take]at hu
  simp[hj.2]at hu
  simp[List.getD,hu]
 rw[Addr.add_lit,Nat.add_assoc]
 refine ae ?_ hb
 rw[hc (lo+j) (by omega),e]
def RetL(S:Nat->Prop)(w:jz)(ps:List (List Int))(e:Ending)(w':jz):Prop:=∃b off n c,e=K (F (some ⟨b,off,none⟩) n c)/\PL S w' (some ⟨b,off,none⟩) n ps/\n<=c/\Below w.heap.size w w'
theorem OP.ret{S:Nat->Prop}{w w':jz}{base:Nat}{e:TypeId}{v:j1}{ps:List (List Int)}(h:OP S w' base e v ps)(hne:ps≠[])(hb:Below w.heap.size w w'):RetL S w ps (K v) w':=by
 obtain⟨cs,hrow,hp,hv⟩:=h;have h2:OP S w' base e v ps:=⟨cs,hrow,hp,hv⟩;obtain⟨A,c,rfl,hpl,hc⟩:=h2.read;obtain⟨_,h3⟩:=hrow
 rcases h3 with⟨h3,h4⟩|⟨g,cap,cur,h3,_⟩
 ·exact absurd (List.eq_nil_of_length_eq_zero h4) hne
 ·injection h3 with h5
  subst h5
  exact⟨g,0,_,c,rfl,hpl,hc,hb⟩
theorem putL_new{l:List (List Int)}{p:List Int}{k:Nat}(hk:k<=l.length)(h1:∀j,j<k->befB (l.getD j []) p=true)(h2:k<l.length->befB (l.getD k []) p=false)(h3:k<l.length->befB p (l.getD k [])=true):
  putL l p=l.take k++[p]++l.drop k:=by
 rw[putL_at l p k hk h1 h2,if_neg,List.append_assoc];rfl
 rintro⟨h4,h5⟩
 rw[h3 h4]at h5;cases h5
theorem putL_old{l:List (List Int)}{p:List Int}{k:Nat}(hk:k<l.length)(h1:∀j,j<k->befB (l.getD j []) p=true)(h2:befB (l.getD k []) p=false)(h3:befB p (l.getD k [])=false):putL l p=l:=by
 rw[putL_at l p k (by omega) h1 (fun _=>h2),if_pos ⟨hk,h3⟩]
theorem pos_bd{h c:Nat}{q:List Int}(hq:PosP h c q)(hc:c<=1000):∀x∈q,0<=x/\x<=1000:=by
 intro x hx
 refine⟨hq.2.1 x hx,?_⟩
 obtain⟨i,hi,rfl⟩:=List.getElem_of_mem hx;have h1:=dz i hq.2.1;have h2:=hq.2.2
 have:q.getD i 0=q[i]:=by simp[List.getD,hi]
 omega
theorem PVs.into{S:Nat->Prop}{w W:jz}{v:j1}{cs:List j1}{ps:List (List Int)}(h:PVs (fun k=>S k\/w.heap.size<=k) w cs ps)(hb:Below w.heap.size w W)(hv:∀k,v.ownBlock=some k->w.heap.size<=k):PVs (wth S v) W cs ps:=
 (h.frm (Frm.of_below' _ hb)).set fun k hk=>.inl (hk.elim .inl fun h=>.inr (hv k h))
theorem ec (S:Nat->Prop) (b off n c:Nat) (ps:List (List Int)) (B:Option Addr) (m cp:Nat) (p:List Int) (w:jz) (hS:∀k,w.heap.size<=k->¬S k) (hl:PL S w (some ⟨b,off,none⟩) n ps) (hc:n<=c) (hn:n<=1000000)
  (hp:SQ S w B m p) (hmc:m<=cp) (hm:m<=24) (hpp:PosP m 15 p) (hps:∀q∈ps,PosP m 15 q):
  qa qh 201 #[F (some ⟨b,off,none⟩) n c,F B m cp] w (RetL S w (putL ps p)):=by
 obtain⟨i0,hi,hz0,hz1,hz2⟩:=info_parts Tryz.infoL;have HPL:=h_ hl;have HSS:=h_ hS;have hpl:=hl.len;have HLN:=h_ hpl;have HSP:=h_ hp
 have HPB:=h_ (pos_bd hpp (by omega))
 have HPSB:Hid (∀q∈ps,(∀x∈q,0<=x/\x<=1000)/\q.length=m):=fun q hq=>⟨pos_bd (hps q hq) (by omega),(hps q hq).1⟩
 obtain⟨cs,hcz,hcs⟩:=hl;have HCZ:=h_ hcz
 have HCS:Hid (PVs (fun k=>S k\/w.heap.size<=k) w cs ps):=hcs.set fun k hk=>hk
 have HPP:Hid (PV (fun k=>S k\/w.heap.size<=k) w (F B m cp) p):=⟨B,m,cp,rfl,hp.set fun k hk=>hk,hmc⟩
 have HLC:Hid (cs.length=n):=by unfold Hid;rw[hcz.1,Nat.mul_one]
 have HSC:=h_ hcs.slices;clear hS hpl hp hpp hps hcz hcs
 go_enter Tryz.func201,Tryz.ntmps201
 go_wp2_with (fail)
 go_loopw [5] (fun vi wr=>∃k:Nat,k<=n/\vi=o I k/\Hid (∀j,j<k->befB (ps.getD j []) p=true)/\Hid (∃m,wr=w.drewN m)) (fun vi _=>n-(intOf vi).toNat)
 case atStart=>exact⟨0,by omega,rfl,fun j hj=>by omega,0,rfl⟩
 case round=>
  obtain⟨k,hk,rfl,hbf,hw⟩:=hrel
  by_cases hlt:k<n
  focus
   have hki:(k:Int)<(n:Int):=by omega
   obtain⟨b',o',Bq,mq,cq,hA,hz,hcell,hsq,hmq⟩:=(show PL S wr (some ⟨b,off,none⟩) n ps by obtain⟨m,hm⟩:=hw.out;rw[hm];exact HPL.out).at hlt
   injection hA with hA;injection hA with hA1 hA2;subst hA1 hA2
   have hmem:=ak ps ([]:List Int) (k:=k) (by have:=HLN.out;omega)
   have hq:=HPSB.out _ hmem
   have hqm:m=mq:=by rw[<-hsq.1.1];exact hq.2.symm
   subst hqm
   have BF:=ia Bq B m cq cp (ps.getD k []) p wr hsq.1 (by obtain⟨m',hm'⟩:=hw.out;rw[hm'];exact HSP.out.1) (by omega) hq.1 HPB.out
   have BF2:∀W:jz,(∃j,W=wr.drewN j)->qa qh 218 #[F B m cp,F Bq m cq] W fun e w'=>e=K (.bool (befB p (ps.getD k [])))/\∃j,w'=W.drewN j:=fun W ⟨j,hj⟩=>by
    subst hj
    exact ia B Bq m cp cq p (ps.getD k []) _ (by obtain⟨m',hm'⟩:=hw.out;rw[hm'];exact HSP.out.1) hsq.1 (by omega) HPB.out hq.1
   have HKT:Hid (k<ps.length):=by unfold Hid;rw[HLN.out];exact hlt
   clear hmem hq hsq
   rcases hb1:befB (ps.getD k []) p with _|_
   focus
    rcases hb2:befB p (ps.getD k [])with _|_
    focus
     have HPUT:Hid (putL ps p=ps):=putL_old HKT.out hbf.out hb1 hb2
     refine ?zc
    rotate_left
    focus
     have HPUT:Hid (putL ps p=(ps.take k++[p])++ps.drop k):=putL_new (by have:=HLN.out;omega) hbf.out (fun _=>hb1) (fun _=>hb2)
     refine ?zd
   rotate_left 2
   ·rw[hb1]at BF
    replace BF:=h_ BF;have HB1:=h_ hb1;clear hb1 BF2
    go_wp2_with (go_at_call 218;(refine BF.out.mono ?_);rintro e w9 ⟨rfl,m1,rfl⟩)
    go_roundw
    case rel=>exact⟨k+1,by omega,by go_num,fun j hj=>by
     by_cases e:j=k
     ·rw[e];exact HB1.out
     ·exact hbf.out j (by omega),cW hw.out⟩
    case measure=>(simp[intOf])<;>omega
  rotate_left 2
  focus
   have hkn:k=n:=by omega
   have HBW:Hid (Below w.heap.size w wr):=by obtain⟨m,hm⟩:=hw.out;rw[hm];exact below_drewN' (qd _ _) _
   have HPUT:Hid (putL ps p=(ps.take n++[p])++ps.drop n):=putL_new (by have:=HLN.out;omega) (fun j hj=>hbf.out j (by omega)) (fun h=>by have:=HLN.out;omega) (fun h=>by have:=HLN.out;omega)
   subst hkn
   by_cases hck:c=k
   focus
    subst hck
    refine ?za
   rotate_left
   focus
    refine ?zb
  rotate_left 2
  case' za|zb=>
   have HBA:Hid (Below w.heap.size w (World.alloc wr (J #[] 24))):=HBW.out.alloc HBW.out.size _
   have HM:Hid ((World.alloc wr (J #[] 24)).ownsRow w.heap.size 24 1 (F (some ⟨(World.heap wr).size,0,none⟩) 0 0) 0 []):=by
    obtain⟨cs',h1,h2,_⟩:=OP.made (S:=S) (cs:=[]) (e:=24) (base:=w.heap.size) wr HBW.out.size HSS.out (PVs.nil_ _ _) (by decide)
    have:cs'=[]:=List.eq_nil_of_length_eq_zero h2.1
    subst this;exact h1
  case za=>
   have HL1:Hid ((cs.take c).length=c*1):=by unfold Hid;rw[List.length_take,HLC.out]<;>omega
   have HK1:Hid (c=(ps.take c).length):=by unfold Hid;rw[List.length_take,HLN.out]<;>omega
   have HE1:Hid (∀u∈cs.take c,u.oneCell'=true):=fun u hu=>HSC.out u (List.mem_of_mem_take hu)
   have HN1:Hid (∀j u,(cs.take c)[j]? =some u->(World.alloc wr (J #[] 24)).cell? ((⟨b,off,none⟩:Addr).add j)=some u):=HCZ.out.news HBA.out 0 c
   have HL3:Hid ((cs.drop c).length=0*1):=by unfold Hid;rw[List.length_drop,HLC.out]<;>omega
   have HK3:Hid (0=(ps.drop c).length):=by unfold Hid;rw[List.length_drop,HLN.out]<;>omega
   have HE3:Hid (∀u∈cs.drop c,u.oneCell'=true):=fun u hu=>HSC.out u (List.mem_of_mem_drop hu)
   go_wp2_with (first
    | (at_builtin
       (refine wpList_append_own_at _ rfl _ _ 186 rfl w.heap.size 24 i0 (F none 0 0) 1 24 Tryz.underlying186 hi hz0 hz1 hz2 rfl (by decide) _ 0 [] rfl HM.out ⟨b,off,none⟩ c c (cs.take c) rfl HL1.out HN1.out HE1.out (by unfold maxLen;omega) (by omega) HBA.out.size ?_)
       intro v1 w1 hown hgrow _ hat
       have HO1:OP S w1 w.heap.size 24 v1 ([]++ps.take c):=OP.grew (cs:=[]) (ps:=[]) (v:=F (some ⟨(World.heap wr).size,0,none⟩) 0 0) (PVs.nil_ _ _) ((HCS.out.take c).into HBA.out (fun q hq=>by have:=qe HM.out q hq;exact this.1)) hown HK1.out hgrow hat HSS.out
       rw [List.nil_append]at HO1
       have HB1:Hid (Below w.heap.size w w1):=HBA.out.grown hgrow HBA.out.size (fun q hq=>(qe HM.out q hq).1)
       obtain⟨cs1,hrow1,hpv1, -⟩:=HO1;have HROW1:=h_ (row_alloc hrow1 (J #[F B m cp] 24));have HPV1:=h_ (hpv1.frm ((Frm.refl (wth S v1) _).alloc (J #[F B m cp] 24)))
       have HPE1:Hid (PVs (wth S v1) (w1.alloc (J #[F B m cp] 24)) [F B m cp] [p]):=(PVs.one HPP.out).into (HB1.out.alloc HB1.out.size _) (fun q hq=>(qe hrow1 q hq).1)
       clear hown hgrow hat hrow1 hpv1)
    | (at_builtin
       (
         (refine wpList_append_own_at _ rfl _ _ 186 rfl w.heap.size 24 i0 (F none 0 0) 1 24 Tryz.underlying186 hi hz0 hz1 hz2 rfl (by decide) _ _ _ rfl HROW1.out ⟨w1.heap.size,0,none⟩ 1 1 [F B m cp] rfl rfl (one_new _ _ _) (aI _ _ _) (by have:=HK1.out;unfold maxLen;omega) (by have:=HK1.out;omega) (by have h1:=HB1.out.size;simp;omega) ?_)
         intro v2 w2 hown hgrow _ hat
         have HO2:OP S w2 w.heap.size 24 v2 (ps.take c++[p]):=OP.grew HPV1.out HPE1.out hown rfl hgrow hat HSS.out
         have HB2:Hid (Below w.heap.size w w2):=(HB1.out.alloc HB1.out.size _).grown hgrow (by have h1:=HB1.out.size;simp;omega) (fun q hq=>(qe HROW1.out q hq).1)
         obtain⟨cs2,hrow2,hpv2, -⟩:=HO2;have HROW2:=h_ hrow2;have HPV2:=h_ hpv2
         have HN3:Hid (∀j u,(cs.drop c)[j]? =some u->w2.cell? ((⟨b,off,none⟩:Addr).add j)=some u):=by
           have h:=HCZ.out.news HB2.out c cs.length
           rw [qf (by rw [List.length_drop];omega)]at h
           first |exact h |(intro j u hu;rw [List.drop_of_length_le (by rw [HLC.out];omega)]at hu;simp at hu)
         have HPE2:Hid (PVs (wth S v2) w2 (cs.drop c) (ps.drop c)):=(HCS.out.drop c).into HB2.out (fun q hq=>(qe hrow2 q hq).1)
         have HK2:Hid ((ps.take c++[p]).length<=1000001):=by unfold Hid;rw [qg];have:=HK1.out;simp only [List.length_singleton];omega
         clear hown hgrow hat hrow2 hpv2 HROW1))
    | (at_builtin
       (refine wpList_append_own_at _ rfl _ _ 186 rfl w.heap.size 24 i0 (F none 0 0) 1 24 Tryz.underlying186 hi hz0 hz1 hz2 rfl (by decide) _ _ _ rfl HROW2.out ⟨b,off,none⟩ 0 0 (cs.drop c) rfl HL3.out HN3.out HE3.out (by have:=HK2.out;unfold maxLen;omega) (by have:=HK2.out;omega) HB2.out.size ?_)
       intro v3 w3 hown hgrow _ hat
       have HO3:Hid (OP S w3 w.heap.size 24 v3 ((ps.take c++[p])++ps.drop c)):=OP.grew HPV2.out HPE2.out hown HK3.out hgrow hat HSS.out
       have HB3:Hid (Below w.heap.size w w3):=HB2.out.grown hgrow HB2.out.size (fun q hq=>(qe HROW2.out q hq).1)
       clear hown hgrow hat HROW2)
    )
   go_ret
   rw[HPUT.out]
   exact HO3.out.ret (by simp) HB3.out
  case zb=>
   have HL1:Hid ((cs.take k).length=k*1):=by unfold Hid;rw[List.length_take,HLC.out]<;>omega
   have HK1:Hid (k=(ps.take k).length):=by unfold Hid;rw[List.length_take,HLN.out]<;>omega
   have HE1:Hid (∀u∈cs.take k,u.oneCell'=true):=fun u hu=>HSC.out u (List.mem_of_mem_take hu)
   have HN1:Hid (∀j u,(cs.take k)[j]? =some u->(World.alloc wr (J #[] 24)).cell? ((⟨b,off,none⟩:Addr).add j)=some u):=HCZ.out.news HBA.out 0 k
   have HL3:Hid ((cs.drop k).length=0*1):=by unfold Hid;rw[List.length_drop,HLC.out]<;>omega
   have HK3:Hid (0=(ps.drop k).length):=by unfold Hid;rw[List.length_drop,HLN.out]<;>omega
   have HE3:Hid (∀u∈cs.drop k,u.oneCell'=true):=fun u hu=>HSC.out u (List.mem_of_mem_drop hu)
   go_wp2_with (first
    | (at_builtin
       (refine wpList_append_own_at _ rfl _ _ 186 rfl w.heap.size 24 i0 (F none 0 0) 1 24 Tryz.underlying186 hi hz0 hz1 hz2 rfl (by decide) _ 0 [] rfl HM.out ⟨b,off,none⟩ k c (cs.take k) rfl HL1.out HN1.out HE1.out (by unfold maxLen;omega) (by omega) HBA.out.size ?_)
       intro v1 w1 hown hgrow _ hat
       have HO1:OP S w1 w.heap.size 24 v1 ([]++ps.take k):=OP.grew (cs:=[]) (ps:=[]) (v:=F (some ⟨(World.heap wr).size,0,none⟩) 0 0) (PVs.nil_ _ _) ((HCS.out.take k).into HBA.out (fun q hq=>by have:=qe HM.out q hq;exact this.1)) hown HK1.out hgrow hat HSS.out
       rw [List.nil_append]at HO1
       have HB1:Hid (Below w.heap.size w w1):=HBA.out.grown hgrow HBA.out.size (fun q hq=>(qe HM.out q hq).1)
       obtain⟨cs1,hrow1,hpv1, -⟩:=HO1;have HROW1:=h_ (row_alloc hrow1 (J #[F B m cp] 24));have HPV1:=h_ (hpv1.frm ((Frm.refl (wth S v1) _).alloc (J #[F B m cp] 24)))
       have HPE1:Hid (PVs (wth S v1) (w1.alloc (J #[F B m cp] 24)) [F B m cp] [p]):=(PVs.one HPP.out).into (HB1.out.alloc HB1.out.size _) (fun q hq=>(qe hrow1 q hq).1)
       clear hown hgrow hat hrow1 hpv1)
    | (at_builtin
       (
         (refine wpList_append_own_at _ rfl _ _ 186 rfl w.heap.size 24 i0 (F none 0 0) 1 24 Tryz.underlying186 hi hz0 hz1 hz2 rfl (by decide) _ _ _ rfl HROW1.out ⟨w1.heap.size,0,none⟩ 1 1 [F B m cp] rfl rfl (one_new _ _ _) (aI _ _ _) (by have:=HK1.out;unfold maxLen;omega) (by have:=HK1.out;omega) (by have h1:=HB1.out.size;simp;omega) ?_)
         intro v2 w2 hown hgrow _ hat
         have HO2:OP S w2 w.heap.size 24 v2 (ps.take k++[p]):=OP.grew HPV1.out HPE1.out hown rfl hgrow hat HSS.out
         have HB2:Hid (Below w.heap.size w w2):=(HB1.out.alloc HB1.out.size _).grown hgrow (by have h1:=HB1.out.size;simp;omega) (fun q hq=>(qe HROW1.out q hq).1)
         obtain⟨cs2,hrow2,hpv2, -⟩:=HO2;have HROW2:=h_ hrow2;have HPV2:=h_ hpv2
         have HN3:Hid (∀j u,(cs.drop k)[j]? =some u->w2.cell? ((⟨b,(off+k),none⟩:Addr).add j)=some u):=by
           have h:=HCZ.out.news HB2.out k cs.length
           rw [qf (by rw [List.length_drop];omega)]at h
           first |exact h |(intro j u hu;rw [List.drop_of_length_le (by rw [HLC.out];omega)]at hu;simp at hu)
         have HPE2:Hid (PVs (wth S v2) w2 (cs.drop k) (ps.drop k)):=(HCS.out.drop k).into HB2.out (fun q hq=>(qe hrow2 q hq).1)
         have HK2:Hid ((ps.take k++[p]).length<=1000001):=by unfold Hid;rw [qg];have:=HK1.out;simp only [List.length_singleton];omega
         clear hown hgrow hat hrow2 hpv2 HROW1))
    | (at_builtin
       (refine wpList_append_own_at _ rfl _ _ 186 rfl w.heap.size 24 i0 (F none 0 0) 1 24 Tryz.underlying186 hi hz0 hz1 hz2 rfl (by decide) _ _ _ rfl HROW2.out ⟨b,(off+k),none⟩ 0 (c-k) (cs.drop k) rfl HL3.out HN3.out HE3.out (by have:=HK2.out;unfold maxLen;omega) (by have:=HK2.out;omega) HB2.out.size ?_)
       intro v3 w3 hown hgrow _ hat
       have HO3:Hid (OP S w3 w.heap.size 24 v3 ((ps.take k++[p])++ps.drop k)):=OP.grew HPV2.out HPE2.out hown HK3.out hgrow hat HSS.out
       have HB3:Hid (Below w.heap.size w w3):=HB2.out.grown hgrow HB2.out.size (fun q hq=>(qe HROW2.out q hq).1)
       clear hown hgrow hat HROW2)
    )
   go_ret
   rw[HPUT.out]
   exact HO3.out.ret (by simp) HB3.out
  case' zc|zd=>
   rw[hb1]at BF;rw[hb2]at BF2;replace BF:=h_ BF;replace BF2:=h_ BF2;clear hb1 hb2
  case zc=>
   go_wp2_with (first
    | (go_at_call 218
       (
         (refine BF.out.mono ?_)
         rintro e w9 ⟨rfl,m1,hw9⟩
         have e9:w9.cell? ⟨b,off+k,none⟩=some (F Bq m cq):=by rw [hw9];exact hcell
         replace hw9:=h_ hw9
         clear BF))
    | (go_at_call 218
       (
         (refine(BF2.out _ ⟨_,hw9.out⟩).mono ?_)
         rintro e w8 ⟨rfl,m2,hw8⟩
         replace hw8:=h_ hw8)))
   go_ret
   have hww:∃j,w8=w.drewN j:=by
    obtain⟨-,hj⟩:=hw.out;rw[hw8.out,hw9.out]
    exact cW (cW hw.out)
   obtain⟨j,hj⟩:=hww;subst hj;rw[HPUT.out]
   exact⟨b,off,n,c,rfl,HPL.out,hc,below_drewN' (qd _ _) _⟩
  case zd=>
   have hck:¬c=k:=by omega
   have HBX:Hid (∀W:jz,(∃j,W=wr.drewN j)->Below w.heap.size w W):=fun W ⟨j,hj⟩=>by
    obtain⟨j2,h2⟩:=hw.out
    rw[hj,h2];exact below_drewN' (below_drewN' (qd _ _) _) _
   go_wp2_with (first
    | (go_at_call 218
       (refine BF.out.mono ?_)
       rintro e w9 ⟨rfl,m1,hw9⟩
       have e9:w9.cell? ⟨b,off+k,none⟩=some (F Bq m cq):=by rw [hw9];exact hcell
       replace hw9:=h_ hw9
       clear BF)
    | (go_at_call 218
       (
         (refine(BF2.out _ ⟨_,hw9.out⟩).mono ?_)
         rintro e w8 ⟨rfl,m2,hw8⟩
         have HBW:Hid (Below w.heap.size w w8):=by rw [hw8];exact below_drewN' (HBX.out _ ⟨_,hw9.out⟩) _
         clear hw8;have HBA:Hid (Below w.heap.size w (World.alloc w8 (J #[] 24))):=HBW.out.alloc HBW.out.size _
         have HM:Hid ((World.alloc w8 (J #[] 24)).ownsRow w.heap.size 24 1 (F (some ⟨(World.heap w8).size,0,none⟩) 0 0) 0 []):=by
           obtain⟨cs',h1,h2,_⟩:=OP.made (S:=S) (cs:=[]) (e:=24) (base:=w.heap.size) w8 HBW.out.size HSS.out (PVs.nil_ _ _) (by decide)
           have:cs'=[]:=List.eq_nil_of_length_eq_zero h2.1
           subst this;exact h1
         have HL1:Hid ((cs.take k).length=k*1):=by unfold Hid;rw [List.length_take,HLC.out]<;>omega
         have HK1:Hid (k=(ps.take k).length):=by unfold Hid;rw [List.length_take,HLN.out]<;>omega
         have HE1:Hid (∀u∈cs.take k,u.oneCell'=true):=fun u hu=>HSC.out u (List.mem_of_mem_take hu)
         have HN1:Hid (∀j u,(cs.take k)[j]? =some u->(World.alloc w8 (J #[] 24)).cell? ((⟨b,off,none⟩:Addr).add j)=some u):=HCZ.out.news HBA.out 0 k
         have HL3:Hid ((cs.drop k).length=(n-k)*1):=by unfold Hid;rw [List.length_drop,HLC.out]<;>omega
         have HK3:Hid ((n-k)=(ps.drop k).length):=by unfold Hid;rw [List.length_drop,HLN.out]<;>omega
         have HE3:Hid (∀u∈cs.drop k,u.oneCell'=true):=fun u hu=>HSC.out u (List.mem_of_mem_drop hu)
         ))
     | (at_builtin
        (refine wpList_append_own_at _ rfl _ _ 186 rfl w.heap.size 24 i0 (F none 0 0) 1 24 Tryz.underlying186 hi hz0 hz1 hz2 rfl (by decide) _ 0 [] rfl HM.out ⟨b,off,none⟩ k c (cs.take k) rfl HL1.out HN1.out HE1.out (by unfold maxLen;omega) (by omega) HBA.out.size ?_)
        intro v1 w1 hown hgrow _ hat
        have HO1:OP S w1 w.heap.size 24 v1 ([]++ps.take k):=OP.grew (cs:=[]) (ps:=[]) (v:=F (some ⟨(World.heap w8).size,0,none⟩) 0 0) (PVs.nil_ _ _) ((HCS.out.take k).into HBA.out (fun q hq=>by have:=qe HM.out q hq;exact this.1)) hown HK1.out hgrow hat HSS.out
        rw [List.nil_append]at HO1
        have HB1:Hid (Below w.heap.size w w1):=HBA.out.grown hgrow HBA.out.size (fun q hq=>(qe HM.out q hq).1)
        obtain⟨cs1,hrow1,hpv1, -⟩:=HO1;have HROW1:=h_ (row_alloc hrow1 (J #[F B m cp] 24));have HPV1:=h_ (hpv1.frm ((Frm.refl (wth S v1) _).alloc (J #[F B m cp] 24)))
        have HPE1:Hid (PVs (wth S v1) (w1.alloc (J #[F B m cp] 24)) [F B m cp] [p]):=(PVs.one HPP.out).into (HB1.out.alloc HB1.out.size _) (fun q hq=>(qe hrow1 q hq).1)
        clear hown hgrow hat hrow1 hpv1)
     | (at_builtin
        (
          (refine wpList_append_own_at _ rfl _ _ 186 rfl w.heap.size 24 i0 (F none 0 0) 1 24 Tryz.underlying186 hi hz0 hz1 hz2 rfl (by decide) _ _ _ rfl HROW1.out ⟨w1.heap.size,0,none⟩ 1 1 [F B m cp] rfl rfl (one_new _ _ _) (aI _ _ _) (by have:=HK1.out;unfold maxLen;omega) (by have:=HK1.out;omega) (by have h1:=HB1.out.size;simp;omega) ?_)
          intro v2 w2 hown hgrow _ hat
          have HO2:OP S w2 w.heap.size 24 v2 (ps.take k++[p]):=OP.grew HPV1.out HPE1.out hown rfl hgrow hat HSS.out
          have HB2:Hid (Below w.heap.size w w2):=(HB1.out.alloc HB1.out.size _).grown hgrow (by have h1:=HB1.out.size;simp;omega) (fun q hq=>(qe HROW1.out q hq).1)
          obtain⟨cs2,hrow2,hpv2, -⟩:=HO2;have HROW2:=h_ hrow2;have HPV2:=h_ hpv2
          have HN3:Hid (∀j u,(cs.drop k)[j]? =some u->w2.cell? ((⟨b,(off+k),none⟩:Addr).add j)=some u):=by
            have h:=HCZ.out.news HB2.out k cs.length
            rw [qf (by rw [List.length_drop];omega)]at h
            first |exact h |(intro j u hu;rw [List.drop_of_length_le (by rw [HLC.out];omega)]at hu;simp at hu)
          have HPE2:Hid (PVs (wth S v2) w2 (cs.drop k) (ps.drop k)):=(HCS.out.drop k).into HB2.out (fun q hq=>(qe hrow2 q hq).1)
          have HK2:Hid ((ps.take k++[p]).length<=1000001):=by unfold Hid;rw [qg];have:=HK1.out;simp only [List.length_singleton];omega
          clear hown hgrow hat hrow2 hpv2 HROW1))
     | (at_builtin
        (refine wpList_append_own_at _ rfl _ _ 186 rfl w.heap.size 24 i0 (F none 0 0) 1 24 Tryz.underlying186 hi hz0 hz1 hz2 rfl (by decide) _ _ _ rfl HROW2.out ⟨b,(off+k),none⟩ (n-k) (c-k) (cs.drop k) rfl HL3.out HN3.out HE3.out (by have:=HK2.out;unfold maxLen;omega) (by have:=HK2.out;omega) HB2.out.size ?_)
        intro v3 w3 hown hgrow _ hat
        have HO3:Hid (OP S w3 w.heap.size 24 v3 ((ps.take k++[p])++ps.drop k)):=OP.grew HPV2.out HPE2.out hown HK3.out hgrow hat HSS.out
        have HB3:Hid (Below w.heap.size w w3):=HB2.out.grown hgrow HB2.out.size (fun q hq=>(qe HROW2.out q hq).1)
        clear hown hgrow hat HROW2)
    )
   go_ret
   rw[HPUT.out]
   exact HO3.out.ret (by simp) HB3.out
theorem putL_len:∀(l:List (List Int)) (p:List Int),(putL l p).length<=l.length+1
 | [],p=>by simp[putL]
 |q::r,p=>by
   have ih:=putL_len r p;rw [dX]
   split
   ·simp;omega
   ·split<;>simp
theorem de(acc l:List (List Int)):(bH acc l).length<=acc.length+l.length:=by
 induction l using bw with
 |nil=>rw[cI];simp
 |snoc l x ih=>
  rw[cH];have:=putL_len (bH acc l) x
  simp only[qg,List.length_singleton];omega
theorem bU(l:List (List Int)):(sortU l).length<=l.length:=by have:=de [] l;simpa[sortU]using this
theorem gn{α β:Type}(f:α->List β)(B:Nat):∀(l:List α),(∀x∈l,(f x).length<=B)->(l.flatMap f).length<=l.length*B
 | [],_=>by simp
 |x::r,h=>by
   have h1:=h x (by simp)
   have h2:=gn f B r fun y hy=>h y (by simp [hy])
   simp only [List.flatMap_cons,qg,List.length_cons,Nat.add_mul,Nat.one_mul];omega
theorem jF{p q:List Int}{d:Nat}(h:q∈au p d):q.length=p.length:=by
 obtain⟨i,_,_,rfl⟩:=bL.1 h
 exact gK p i d
theorem jM:∀(ds:List Nat) (p:List Int),p.length<=24->(reach ds p).length<=24^ds.length
 | [],p,_=>by simp[dV]
 |d::ds,p,hp=>by
   rw [bJ]
   have hpos: 1<=24^(d::ds).length:=Nat.one_le_pow _ _ (by omega)
   split
   ·simpa using hpos
   · have h1:=gn (reach ds) (24^ds.length) (au p d) fun q hq=>jM ds q (by rw [jF hq];exact hp)
     have h2:(au p d).length<=24:=by have:=cA (p:=p) (d:=d) p.length;exact qc this hp
     have h3:=Nat.mul_le_mul_right (24^ds.length) h2;rw [List.length_cons,Nat.pow_succ,Nat.mul_comm (24^ds.length) 24]
     omega
theorem cC{ds:List Nat}{p:List Int}(hd:ds.length<=4)(hp:p.length<=24):(reach ds p).length<=331776:=by
 have h1:=jM ds p hp
 have h2:24^ds.length<=24^4:=Nat.pow_le_pow_right (by omega) hd
 omega
theorem gC{d:Nat}{ds:List Nat}{p:List Int}(i:Nat)(hd:(d::ds).length<=4)(hp:p.length<=24):(walkB d ds p i).length<=331776:=by
 unfold walkB
 refine qc (bU _) ?_
 have h1:=gn (reach ds) (24^ds.length) ((au p d).take i) fun q hq=>jM ds q (by rw[jF (List.mem_of_mem_take hq)];exact hp)
 have h2:((au p d).take i).length<=24:=by
  have h3:=cA (p:=p) (d:=d) p.length
  have h4:((au p d).take i).length<=(au p d).length:=by rw[List.length_take];omega
  exact qc h4 (qc h3 hp)
 have h3:24^ds.length<=24^3:=Nat.pow_le_pow_right (by omega) (by simpa using hd)
 have h5:=Nat.mul_le_mul h2 h3
 omega
def RetW(S:Nat->Prop)(w:jz)(ps:List (List Int))(N:Nat)(e:Ending)(w':jz):Prop:=∃b off m c,e=K (.tuple #[F (some ⟨b,off,none⟩) m c,o I N])/\PL S w' (some ⟨b,off,none⟩) m ps/\m<=c/\Below w.heap.size w w'
def WalkC(ds:List Nat):Prop:=∀(S:Nat->Prop) (p:List Int) (N:Nat) (A:Option Addr) (n c:Nat) (D:Option Addr) (dc:Nat) (w:jz),SL w A n p->n<=c->PosP n 15 p->n<=24->0<n->
 SL w D ds.length (ds.map (Nat.cast:Nat->Int))->ds.length<=dc->Uni ds p N->N<=4->(∀k,w.heap.size<=k->¬S k)->
 qa qh 200 #[F A n c,F D ds.length dc] w (RetW S w (sortU (reach ds p)) N)
theorem OP.one{S:Nat->Prop}{w w1:jz}{v:j1}{p:List Int}(hb:Below w.heap.size w w1)(hS:∀k,w.heap.size<=k->¬S k)(hp:PV S w1 v p):
  PL S (w1.alloc (J #[v] 24)) (some ⟨w1.heap.size,0,none⟩) 1 [p]:=by
 obtain⟨A,c,hv,hpl,_⟩:=(OP.made (S:=S) (e:=24) (base:=w.heap.size) w1 hb.size hS (PVs.one hp) (by simp[maxLen])).read
 injection hv with h1 h2 h3
 rw[h1];exact hpl
theorem l10Walk_nil:WalkC []:=by
 intro S p N A n c D dc w hx hc hp hn hn0 hD hdc hu hN4 hS
 obtain⟨i1,hj,hy0,hy1,hy2⟩:=info_parts Tryz.infoI;have hN:N=0:=hu;subst hN;obtain⟨b,off,rfl,hblt,hcl⟩:=hx.2 hn0;have HL:=h_ hx.1
 have HC1:Hid ((p.map (Value.int I)).length=n*1):=by unfold Hid;rw[List.length_map,HL.out,Nat.mul_one]
 have HSS:=h_ hS
 have HCN:Hid (∀j u,(p.map (Value.int I))[j]? =some u->(w.alloc (J #[] 2)).cell? ((⟨b,off,none⟩:Addr).add j)=some u):=by
  intro j u hu
  have hj:j<p.length:=by have:=(List.getElem?_eq_some_iff.1 hu).1;simpa using this
  have h1:w.cell? ⟨b,off+j,none⟩=some u:=by rw[hcl j (by have:=HL.out;omega),<-getD_map_int p j hj,hu]
  rw[Addr.add_lit]
  exact(World.cell?_alloc_lt w _ _ (World.block_lt_of_cell? w _ h1)).trans h1
 have HCO:Hid ((w.alloc (J #[] 2)).ownsRow w.heap.size 2 1 (F (some ⟨w.heap.size,0,none⟩) 0 0) 0 []):=World.ownsRow_made w #[] 0 (qb _) (by decide) rfl
 clear hcl hx hS hD hu
 go_enter Tryz.func200,Tryz.ntmps200
 go_wp2_with (first
 | (at_builtin
    (refine wpList_append_own _ rfl _ _ 24 rfl w.heap.size 2 i1 (o I 0) 1 8 Tryz.underlying24 hj hy0 hy1 hy2 rfl (by decide) _ 0 [] rfl HCO.out ⟨b,off,none⟩ n c (p.map (Value.int I)) rfl HC1.out HCN.out (ints_oneCell _ _) (by unfold maxLen;omega) (by omega) (by simp) ?_)
    intro v1 w1 hcown hcgrow _
    obtain⟨g,c1,hv1,ho, -, -, -, -,hb⟩:=fC hcown hcgrow HL.out (by omega)
    subst hv1;have HO:=h_ ho;have HB:=h_ hb
    clear hcown hcgrow ho hb HCO))
 go_ret2
 rw[dV,sortU_one]
 exact⟨w1.heap.size,0,1,1,rfl,OP.one HB.out HSS.out (PV.own HO.out HSS.out),by omega,HB.out.alloc HB.out.size _⟩
theorem je{d:Nat}{ds:List Nat}{p q:List Int}{n i k:Nat}(hd:∀e∈d::ds,1<=e)(hp:PosP n 15 p)(hq:PosP n 15 q):
  ∀x∈bH (walkB d ds p i) ((sortU (reach ds q)).take k),PosP n 15 x:=by
 have hds:∀e∈ds,1<=e:=fun e he=>hd e (List.mem_cons_of_mem _ he)
 have h1:∀x∈((au p d).take i).flatMap (reach ds),PosP n 15 x:=fun x hx=>by
  obtain⟨r,hr,hxr⟩:=List.mem_flatMap.1 hx
  exact(bE hds (cF (hd d (by simp)) hp (List.mem_of_mem_take hr)).1 x hxr).1
 have h2:∀x∈reach ds q,PosP n 15 x:=fun x hx=>(bE hds hq x hx).1
 have l1:Lens n (((au p d).take i).flatMap (reach ds)):=fun x hx=>(h1 x hx).1
 have l2:Lens n (reach ds q):=fun x hx=>(h2 x hx).1
 obtain⟨a1,a2,a3⟩:=aP l1;obtain⟨b1,-,b3⟩:=aP l2
 intro x hx
 have:=((dq (l:=(sortU (reach ds q)).take k) (acc:=walkB d ds p i) a1 (fun y hy=>b1 y (List.mem_of_mem_take hy)) a2).2.2 x).1 hx
 rcases this with h|h
 ·exact h1 x ((a3 x).1 h)
 ·exact h2 x ((b3 x).1 (List.mem_of_mem_take h))
theorem l10Walk_cons(d:Nat)(ds:List Nat)(hd1:1<=d)(hd6:d<=6)(hds:∀e∈ds,1<=e)(hl3:ds.length<=3)(IH:WalkC ds):WalkC (d::ds):=by
 intro S p N A n c D dc w hx hc hp hn hn0 hD hdc hu hN4 hS
 obtain⟨i1,hj,hy0,hy1,hy2⟩:=info_parts Tryz.infoI;obtain⟨b,off,rfl,hblt,hcl⟩:=hx.2 hn0;have HL:=h_ hx.1
 have HC1:Hid ((p.map (Value.int I)).length=n*1):=by unfold Hid;rw[List.length_map,HL.out,Nat.mul_one]
 have HSS:=h_ hS;have HX:=h_ hx;have HD:=h_ hD;have HU:=h_ hu;have HP:=h_ hp;have HP0:=h_ hp.2.1;have HP5:=h_ hp.2.2;have HIH:=h_ IH;have HDS:=h_ hds;have HDC:=h_ hdc;have hdc':ds.length+1<=dc:=hdc
 have HCN:Hid (∀j u,(p.map (Value.int I))[j]? =some u->(w.alloc (J #[] 2)).cell? ((⟨b,off,none⟩:Addr).add j)=some u):=by
  intro j u hu
  have hj:j<p.length:=by have:=(List.getElem?_eq_some_iff.1 hu).1;simpa using this
  have h1:w.cell? ⟨b,off+j,none⟩=some u:=by rw[hcl j (by have:=HL.out;omega),<-getD_map_int p j hj,hu]
  rw[Addr.add_lit]
  exact(World.cell?_alloc_lt w _ _ (World.block_lt_of_cell? w _ h1)).trans h1
 have HCO:Hid ((w.alloc (J #[] 2)).ownsRow w.heap.size 2 1 (F (some ⟨w.heap.size,0,none⟩) 0 0) 0 []):=World.ownsRow_made w #[] 0 (qb _) (by decide) rfl
 clear hcl hx hS hD hu hp IH hds hdc
 rw[show(d::ds).length=ds.length+1 from rfl]
 go_enter Tryz.func200,Tryz.ntmps200
 go_wp2_with (first
 | (at_builtin
    (refine wpList_append_own _ rfl _ _ 24 rfl w.heap.size 2 i1 (o I 0) 1 8 Tryz.underlying24 hj hy0 hy1 hy2 rfl (by decide) _ 0 [] rfl HCO.out ⟨b,off,none⟩ n c (p.map (Value.int I)) rfl HC1.out HCN.out (ints_oneCell _ _) (by unfold maxLen;omega) (by omega) (by simp) ?_)
    intro v1 w1 hcown hcgrow _
    obtain⟨g,c1,hv1,ho, -, -, -, -,hb⟩:=fC hcown hcgrow HL.out (by omega)
    subst hv1;have HB1:Hid (Below w.heap.size w (w1.alloc (J #[F (some ⟨g,0,none⟩) n c1] 24))):=hb.alloc hb.size _;have HP1:Hid (PL S (w1.alloc (J #[F (some ⟨g,0,none⟩) n c1] 24)) (some ⟨w1.heap.size,0,none⟩) 1 [p]):=OP.one hb HSS.out (PV.own ho HSS.out)
    obtain⟨bD,oD,hA, -,hDc⟩:=HD.out.2 (by simp)
    subst hA
    have hd0:(w1.alloc (J #[F (some ⟨g,0,none⟩) n c1] 24)).cell? ⟨bD,oD,none⟩=some (o I d):=by
      have h1:=hDc 0 (by simp)
      exact ae (by simpa using h1) HB1.out
    clear hcown hcgrow ho hb HCO hDc)
 | (go_at_call 217
    (refine(l10Steps_any S (some ⟨b,off,none⟩) n c d p _ (by exact HX.out.below HB1.out) hc HP0.out HP5.out hn hn0 hd1 hd6 (fun q hq=>HSS.out q (qc HB1.out.size hq))).mono ?_)
    rintro e w2 ⟨v2,rfl,ho2,hb2⟩
    have HP2:Hid (PL S w2 (some ⟨w1.heap.size,0,none⟩) 1 [p]):=HP1.out.below hb2;have HB2:Hid (Below w.heap.size w w2):=HB1.out.trans (hb2.mono HB1.out.size);obtain⟨A2,c2,hv2,hpl2, -⟩:=ho2.read;subst hv2;have HNX:=h_ hpl2
    clear ho2 hpl2 hb2 HP1))
 go_loopw [6,7,9] (fun vb vm vi wr=>∃i:Nat,i<=(au p d).length/\vi=o I i/\∃(b6 o6 n6 c6:Nat) (L:List (List Int)) (M:Nat),vb=F (some ⟨b6,o6,none⟩) n6 c6/\vm=o I M/\n6<=c6/\Hid (PL S wr (some ⟨b6,o6,none⟩) n6 L)/\
   Hid ((i=0/\L=[p]/\M=0)\/(0<i/\L=walkB d ds p i/\M=N))/\Hid (Below w.heap.size w wr)/\Hid (PL S wr A2 (au p d).length (au p d))) (fun _ _ vi _=>(au p d).length-(intOf vi).toNat)
 case atStart=>exact⟨0,Nat.zero_le _,rfl,_,_,_,_,[p],0,rfl,rfl,by omega,HP2.out,.inl ⟨rfl,rfl,rfl⟩,HB2.out,HNX.out⟩
 case round=>
  obtain⟨i,hi,rfl,b6,o6,n6,c6,L,M,rfl,rfl,hnc,HPLb,hst,HBr,HNr⟩:=hrel
  by_cases hlt:i<(au p d).length
  focus
   have hp0:p.sum≠0:=fun h0=>by rw[kN HP0.out h0]at hlt;simp at hlt
   obtain⟨m,hNm,hum⟩:∃m,N=m+1/\∀q∈au p d,Uni ds q m:=by have:=HU.out;unfold Uni at this;rwa [if_neg hp0]at this
   have hqm:(au p d).getD i []∈au p d:=ak _ _ hlt;obtain⟨b8,o8,Bq,mq,cq,hA,-,hcell8,hsq,hmq⟩:=HNr.out.at hlt;subst hA
   have hwb:=h_ (walkB_step (d:=d) (ds:=ds) (p:=p) (h:=n) (c:=15) (fun e he=>by rcases List.mem_cons.1 he with h|h;rw[h];exact hd1;exact HDS.out e h) HP.out hlt)
   have hpq:=(cF hd1 HP.out hqm).1;have hqu:=hum _ hqm;generalize (au p d).getD i []=q at *
   have hqn:n=mq:=by rw[<-hsq.1.1];exact hpq.1.symm
   subst hqn;have HUQ:=h_ hqu;have HPQ:=h_ hpq;have HSQ:=h_ hsq;clear hqu hpq hsq hum hqm
   by_cases hdc1:dc=1
   focus
    have hdl0:ds=[]:=List.eq_nil_of_length_eq_zero (by omega)
    have HDT:Hid (SL w (some ⟨bD,oD,none⟩) ds.length (ds.map (Nat.cast:Nat->Int))):=by rw[hdl0];exact SL.empty _ _
    have hdl1:ds.length<=0:=by rw[hdl0];exact qb _
    clear hdl0;subst hdc1
    have hii:(i:Int)<((au p d).length:Int):=by omega
    have q3:(1:Int)<=(ds.length:Int)+1:=by omega
    have HIH1:Hid (∀(W:jz),Below w.heap.size w W->SL W Bq n q->qa qh 200 #[F Bq n cq,F (some ⟨bD,oD,none⟩) 0 0] W (RetW S W (sortU (reach ds q)) m)):=fun W hW hq=>by
     have h:=HIH.out S q m Bq n cq (some ⟨bD,oD,none⟩) 0 W hq hmq HPQ.out hn hn0 (HDT.out.below hW) hdl1 HUQ.out (by omega) (fun k hk=>HSS.out k (qc hW.size hk))
     rw[show ds.length=0 by omega]at h
     exact h
    go_wp2_with (fail)
    go_region_held3 (fun w'=>w'.cell? ⟨b8,o8+i,none⟩=some (F Bq n cq))
     (first|exact ae (by assumption) hb9|go_keep)
     (first
      |(go_at_call 200;refine(HIH1.out _ (by exact drw HBr.out) (by exact HSQ.out.1)).mono ?_;rintro e w9 ⟨b9,o9,n9,c9,rfl,hpl9,hc9,hb9⟩))
    refine ?za
   rotate_left
   focus
    have hii:(i:Int)<((au p d).length:Int):=by omega
    have HDT:Hid (SL w (some ⟨bD,oD+1,none⟩) ds.length (ds.map (Nat.cast:Nat->Int))):=by
     have h:=HD.out.cut (k:=1) (cap:=dc) (by simp) HDC.out
     rw[if_neg hdc1]at h
     exact h
    have q1:(1:Int)<=(dc:Int):=by omega
    have q3:(1:Int)<=(ds.length:Int)+1:=by omega
    go_wp2_with (fail)
    go_region_held3 (fun w'=>w'.cell? ⟨b8,o8+i,none⟩=some (F Bq n cq))
     (first|exact ae (by assumption) hb9|go_keep)
     (first
      |(go_at_call 200;refine(HIH.out S q m Bq n cq (some ⟨bD,oD+1,none⟩) (dc-1) _ (by exact HSQ.out.1) hmq (by exact HPQ.out) hn hn0 (by exact HDT.out.below (drw HBr.out)) (by omega) HUQ.out (by omega) (by exact fun k hk=>HSS.out k (qc HBr.out.size hk))).mono ?_;rintro e w9 ⟨b9,o9,n9,c9,rfl,hpl9,hc9,hb9⟩))
    refine ?zb
  rotate_left 2
  ·have hil:i=(au p d).length:=by omega
   have HR:Hid (L=sortU (reach (d::ds) p)/\M=N):=by
    by_cases hp0:p.sum=0
    ·have h0:=kN (d:=d) HP0.out hp0
     have hu:=HU.out;unfold Uni at hu;rw[if_pos hp0]at hu
     rcases hst.out with⟨h1,h2,h3⟩|⟨h1,_⟩
     ·exact⟨by rw[h2,bJ,if_pos hp0,sortU_one],by omega⟩
     ·rw[hil,h0]at h1;simp at h1
    ·have h0:=dQ (d:=d) HP0.out hp0
     have h1:0<(au p d).length:=List.length_pos_iff.2 h0
     rcases hst.out with⟨h2,_⟩|⟨_,h2,h3⟩
     ·omega
     ·exact⟨by rw[h2,hil,walkB_end hp0],h3⟩
   obtain⟨hR1,hR2⟩:=HR.out;subst hR1 hR2;clear hst
   go_wp2_with (fail)
   go_ret2
   exact⟨b6,o6,n6,c6,rfl,HPLb.out,hnc,HBr.out⟩
  case za|zb=>
   rename_i hHeld
   clear hHeld;have HB9:Hid (Below wr.heap.size wr w9):=⟨hb9.os,hb9.tape,hb9.output,hb9.size,hb9.block⟩;have HBW9:Hid (Below w.heap.size w w9):=HBr.out.trans (HB9.out.mono HBr.out.size);have H90:=h_ hpl9
   have hn9:n9<=331776:=by
    rw[<-hpl9.len]
    exact qc (bU _) (cC (by omega) (by rw[HPQ.out.1];exact hn))
   have hsl:(au p d).length<=24:=qc (cA _) (by rw[HL.out];exact hn)
   have HN90:Hid (PL S w9 (some ⟨b8,o8,none⟩) (au p d).length (au p d)):=HNr.out.below HB9.out;have HP6:Hid (PL S w9 (some ⟨b6,o6,none⟩) n6 L):=HPLb.out.below HB9.out;clear hpl9 hb9
   rcases hst.out with⟨h1,h2,h3⟩|⟨h1,h2,h3⟩
   ·have b1:decide ((M:Int)<(m:Int)+1)=true:=decide_eq_true (by omega)
    have HBWW:Hid (Below w.heap.size w (w9.alloc (J #[] 24))):=HBW9.out.alloc HBW9.out.size _;have hba:Hid (Below w9.heap.size w9 (w9.alloc (J #[] 24))):=(qd _ _).alloc (qb _) _;have H9:=h_ (H90.out.below hba.out);have HNW:=h_ (HN90.out.below hba.out)
    have HPX:Hid (PL S (w9.alloc (J #[] 24)) (some ⟨w9.heap.size,0,none⟩) 0 (bH (walkB d ds p i) ((sortU (reach ds q)).take 0))):=by
     unfold Hid
     rw[h1,List.take_zero,cI,kI];exact PL.nil_ _ _ _
    have HBX:Hid (0<=0):=qb _;have HM1:Hid (m+1=N):=hNm.symm;clear h1 h2 h3 hst
    go_wp2_with (fail)
    go_loopw [6,12] (fun vb vk wi=>∃k:Nat,k<=n9/\vk=o I k/\∃(b7 o7 n7 c7:Nat),vb=F (some ⟨b7,o7,none⟩) n7 c7/\n7<=c7/\Hid (PL S wi (some ⟨b7,o7,none⟩) n7 (bH (walkB d ds p i) ((sortU (reach ds q)).take k)))/\Hid (Below (World.heap (w9.alloc (J #[] 24))).size (w9.alloc (J #[] 24)) wi)) (fun _ vk _=>n9-(intOf vk).toNat)
    case atStart=>exact⟨0,Nat.zero_le _,rfl,w9.heap.size,0,0,0,rfl,HBX.out,HPX.out,qd _ _⟩
    case round=>
     obtain⟨k,hk,rfl,b7,o7,n7,c7,rfl,hnc7,HP7,HB7⟩:=hrel
     by_cases hkn:k<n9
     ·have hkk:(k:Int)<(n9:Int):=by omega
      obtain⟨b9',o9',Br,mr,cr,hA,hz9,hcell9,hsr,hmr⟩:=(H9.out.below HB7.out).at hkn;injection hA with hA;injection hA with hA1 hA2;subst hA1 hA2;have hlen9:=H9.out.len
      have hrm:=ak (sortU (reach ds q)) ([]:List Int) (k:=k) (by omega)
      have htk:Hid ((sortU (reach ds q)).take (k+1)=(sortU (reach ds q)).take k++[(sortU (reach ds q)).getD k []]):=by
       unfold Hid
       rw[List.take_succ_eq_append_getElem (by omega)]
       simp[List.getD,show k<(sortU (reach ds q)).length by omega]
      have hdd:∀e∈d::ds,1<=e:=fun e he=>by rcases List.mem_cons.1 he with h|h;rw[h];exact hd1;exact HDS.out e h
      have hrp:PosP n 15 ((sortU (reach ds q)).getD k []):=(bE HDS.out HPQ.out _ (((aP (bB HDS.out HPQ.out)).2.2 _).1 hrm)).1;have hps:=je (i:=i) (k:=k) hdd HP.out HPQ.out
      have hn7:n7<=1000000:=by
       rw[<-HP7.out.len];have h1:=de (walkB d ds p i) ((sortU (reach ds q)).take k)
       have h2:=gC (d:=d) (ds:=ds) (p:=p) i (by simp;omega) (by rw[HL.out];exact hn)
       have h3:((sortU (reach ds q)).take k).length<=(sortU (reach ds q)).length:=by rw[List.length_take];omega
       have h4:=bU (reach ds q)
       have h5:=cC (ds:=ds) (p:=q) (by omega) (by rw[HPQ.out.1];exact hn)
       omega
      generalize (sortU (reach ds q)).getD k []=r at *
      have hrn:n=mr:=by rw[<-hsr.1.1];exact hrp.1.symm
      subst hrn
      have CP:=h_ (ec S b7 o7 n7 c7 _ Br n cr r wr (fun j hj=>HSS.out j (by have h1:=HB7.out.size;have h2:=HBWW.out.size;omega)) HP7.out hnc7 hn7 hsr hmr hn hrp hps)
      clear hps hrp hsr hlen9 hrm
      go_wp2_with (go_at_call 201;((with_reducible refine CP.out.mono ?_);rintro e w5 ⟨b5,o5,n5,c5,rfl,hpl5,hc5,hb5⟩))
      go_roundw
      case rel=>exact⟨k+1,by omega,by go_num,b5,o5,n5,c5,rfl,hc5,by unfold Hid;rw[htk.out,cH];exact hpl5,HB7.out.trans (hb5.mono HB7.out.size)⟩
      case measure=>(simp[intOf])<;>omega
     ·have hkl:k=n9:=by omega
      subst hkl
      have HPe:Hid (PL S wr (some ⟨b7,o7,none⟩) n7 (walkB d ds p (i+1))):=by
       have h:=HP7.out
       rw[qf (by rw[H9.out.len];exact qb _),hwb.out]at h
       exact h
      go_wp2_with (fail)
      go_roundw
      case rel=>exact⟨i+1,by omega,by go_num,b7,o7,n7,c7,_,(m+1),rfl,by go_num,hnc7,HPe.out,.inr ⟨by omega,rfl,HM1.out⟩,HBWW.out.trans (HB7.out.mono HBWW.out.size),HNW.out.below HB7.out⟩
      case measure=>(simp[intOf])<;>omega
   ·have b1:decide ((M:Int)<(m:Int)+1)=false:=decide_eq_false (by omega)
    have b3:((m:Int)+1==(M:Int))=true:=by simp;omega
    have HM1:Hid (M=N):=h3;have HBWW:=HBW9;have H9:=H90;have HNW:=HN90
    have HPX:Hid (PL S w9 (some ⟨b6,o6,none⟩) n6 (bH (walkB d ds p i) ((sortU (reach ds q)).take 0))):=by
     have h:=HP6.out;rw[h2]at h;unfold Hid
     rw[List.take_zero,cI];exact h
    have HBX:=h_ hnc;clear h1 h2 h3 hst
    go_wp2_with (fail)
    go_loopw [6,12] (fun vb vk wi=>∃k:Nat,k<=n9/\vk=o I k/\∃(b7 o7 n7 c7:Nat),vb=F (some ⟨b7,o7,none⟩) n7 c7/\n7<=c7/\Hid (PL S wi (some ⟨b7,o7,none⟩) n7 (bH (walkB d ds p i) ((sortU (reach ds q)).take k)))/\Hid (Below (World.heap w9).size w9 wi)) (fun _ vk _=>n9-(intOf vk).toNat)
    case atStart=>exact⟨0,Nat.zero_le _,rfl,b6,o6,n6,c6,rfl,HBX.out,HPX.out,qd _ _⟩
    case round=>
     obtain⟨k,hk,rfl,b7,o7,n7,c7,rfl,hnc7,HP7,HB7⟩:=hrel
     by_cases hkn:k<n9
     ·have hkk:(k:Int)<(n9:Int):=by omega
      obtain⟨b9',o9',Br,mr,cr,hA,hz9,hcell9,hsr,hmr⟩:=(H9.out.below HB7.out).at hkn;injection hA with hA;injection hA with hA1 hA2;subst hA1 hA2;have hlen9:=H9.out.len
      have hrm:=ak (sortU (reach ds q)) ([]:List Int) (k:=k) (by omega)
      have htk:Hid ((sortU (reach ds q)).take (k+1)=(sortU (reach ds q)).take k++[(sortU (reach ds q)).getD k []]):=by
       unfold Hid
       rw[List.take_succ_eq_append_getElem (by omega)]
       simp[List.getD,show k<(sortU (reach ds q)).length by omega]
      have hdd:∀e∈d::ds,1<=e:=fun e he=>by rcases List.mem_cons.1 he with h|h;rw[h];exact hd1;exact HDS.out e h
      have hrp:PosP n 15 ((sortU (reach ds q)).getD k []):=(bE HDS.out HPQ.out _ (((aP (bB HDS.out HPQ.out)).2.2 _).1 hrm)).1;have hps:=je (i:=i) (k:=k) hdd HP.out HPQ.out
      have hn7:n7<=1000000:=by
       rw[<-HP7.out.len];have h1:=de (walkB d ds p i) ((sortU (reach ds q)).take k)
       have h2:=gC (d:=d) (ds:=ds) (p:=p) i (by simp;omega) (by rw[HL.out];exact hn)
       have h3:((sortU (reach ds q)).take k).length<=(sortU (reach ds q)).length:=by rw[List.length_take];omega
       have h4:=bU (reach ds q)
       have h5:=cC (ds:=ds) (p:=q) (by omega) (by rw[HPQ.out.1];exact hn)
       omega
      generalize (sortU (reach ds q)).getD k []=r at *
      have hrn:n=mr:=by rw[<-hsr.1.1];exact hrp.1.symm
      subst hrn
      have CP:=h_ (ec S b7 o7 n7 c7 _ Br n cr r wr (fun j hj=>HSS.out j (by have h1:=HB7.out.size;have h2:=HBWW.out.size;omega)) HP7.out hnc7 hn7 hsr hmr hn hrp hps)
      clear hps hrp hsr hlen9 hrm
      go_wp2_with (go_at_call 201;((with_reducible refine CP.out.mono ?_);rintro e w5 ⟨b5,o5,n5,c5,rfl,hpl5,hc5,hb5⟩))
      go_roundw
      case rel=>exact⟨k+1,by omega,by go_num,b5,o5,n5,c5,rfl,hc5,by unfold Hid;rw[htk.out,cH];exact hpl5,HB7.out.trans (hb5.mono HB7.out.size)⟩
      case measure=>(simp[intOf])<;>omega
     ·have hkl:k=n9:=by omega
      subst hkl
      have HPe:Hid (PL S wr (some ⟨b7,o7,none⟩) n7 (walkB d ds p (i+1))):=by
       have h:=HP7.out
       rw[qf (by rw[H9.out.len];exact qb _),hwb.out]at h
       exact h
      go_wp2_with (fail)
      go_roundw
      case rel=>exact⟨i+1,by omega,by go_num,b7,o7,n7,c7,_,M,rfl,by go_num,hnc7,HPe.out,.inr ⟨by omega,rfl,HM1.out⟩,HBWW.out.trans (HB7.out.mono HBWW.out.size),HNW.out.below HB7.out⟩
      case measure=>(simp[intOf])<;>omega
theorem eE:∀(ds:List Nat),(∀e∈ds,1<=e/\e<=6)->ds.length<=4->WalkC ds
 | [],_,_=>l10Walk_nil
 |d::ds,h,hl=>l10Walk_cons d ds (h d (by simp)).1 (h d (by simp)).2 (fun e he=>(h e (by simp[he])).1) (by simpa using hl) (eE ds (fun e he=>h e (by simp[he])) (by simp at hl;omega))
theorem Equal_any(A B:Option Addr)(n ca cb:Nat)(p q:List Int)(w:jz)(hx:SL w A n p)(hy:SL w B n q)(hn:n<=2000):
  qa qh 243 #[F A n ca,F B n cb] w fun e w'=>e=K (.bool (decide (p=q)))/\∃m,w'=w.drewN m:=by
 have HX:=h_ hx;have HY:=h_ hy;have hl1:=h_ hx.1;have hl2:=h_ hy.1;clear hx hy
 go_enter Tryz.func243,Tryz.ntmps243
 go_wp2
 go_loopw [13] (fun i wr=>∃k:Nat,k<=n/\i=o I k/\Hid (∀j,j<k->p.getD j 0=q.getD j 0)/\Hid (∃m,wr=w.drewN m)) (fun i _=>n-(intOf i).toNat)
 case atStart=>exact⟨0,by omega,rfl,fun j hj=>by omega,0,rfl⟩
 case round=>
  obtain⟨k,hk,rfl,hc,hw⟩:=hrel
  by_cases hkn:k<n
  ·have hki:(k:Int)<(n:Int):=by omega
   obtain⟨m,hm⟩:=hw.out
   have HX2:SL wr A n p:=by rw[hm];exact HX.out
   have HY2:SL wr B n q:=by rw[hm];exact HY.out
   obtain⟨b1,o1,rfl,z1,c1⟩:=HX2.2 (by omega)
   obtain⟨b2,o2,rfl,z2,c2⟩:=HY2.2 (by omega)
   have d1:=c1 k hkn;have d2:=c2 k hkn
   have E:Hid (p.getD k 0=q.getD k 0->∀j,j<k+1->p.getD j 0=q.getD j 0):=fun e j hj=>by
    by_cases h:j=k
    ·rw[h];exact e
    ·exact hc.out j (by omega)
   have D:Hid (¬p.getD k 0=q.getD k 0->decide (p=q)=false):=fun e=>decide_eq_false fun h=>e (by rw[h])
   clear HX2 HY2 c1 c2 hm;generalize p.getD k 0=x at *;generalize q.getD k 0=y at *
   by_cases hxy:x=y
   ·have b0:(x !=y)=false:=by simp[hxy]
    have HE:=h_ (E.out hxy);clear hxy
    go_wp2_with (fail)
    go_quiet (fail)
    go_wp2_with (fail)
    go_roundw
    case rel=>exact⟨k+1,by omega,by go_num,HE.out,cW hw.out⟩
    case measure=>(simp[intOf])<;>omega
   ·have b0:(x !=y)=true:=by simp[hxy]
    have HE:=h_ (D.out hxy);clear hxy
    go_wp2_with (fail)
    go_quiet (fail)
    go_wp2_with (fail)
    go_ret
    exact⟨by rw[HE.out];rfl,cW hw.out⟩
  ·have hkk:k=n:=by omega
   have HE:Hid (decide (p=q)=true):=decide_eq_true (mu (by rw[hl1.out,hl2.out]) fun i hi=>hc.out i (by have:=hl1.out;omega))
   go_wp2_with (fail)
   go_ret
   exact⟨by rw[HE.out];rfl,hw.out⟩
theorem same_any(A B:Option Addr)(n ca cb:Nat)(p q:List Int)(w:jz)(hx:SL w A n p)(hy:SL w B n q)(hn:n<=2000):
  qa qh 242 #[F A n ca,F B n cb] w fun e w'=>e=K (.bool (decide (p=q)))/\∃m,w'=w.drewN m:=by
 have CE:=h_ (Equal_any A B n ca cb p q w hx hy hn);clear hx hy
 go_enter Tryz.func242,Tryz.ntmps242
 go_wp2_with (go_at_call 243;(with_reducible refine CE.out.mono ?_);rintro e w' ⟨rfl,m,rfl⟩)
 go_ret
 exact⟨rfl,m,rfl⟩
def castD(l:List (List Nat)):List (List Int):=l.map (List.map (Nat.cast:Nat->Int))
theorem iY(S:Nat->Prop)(a b:Nat)(w:jz)(hS:∀k,w.heap.size<=k->¬S k):
  qa qh 203 #[.agg #[o I a,o I b]] w (RetL S w (castD (dice a b))):=by
 have HSS:=h_ hS;clear hS
 by_cases hab:a=b
 ·subst hab
  have HB1:Hid (Below w.heap.size w (w.alloc (J #[o I a,o I a] 37))):=(qd _ _).alloc (qb _) _
  have HO:=h_ (OwnS.made (w.alloc (J #[o I a,o I a] 37)) (base:=w.heap.size) 2 [(a:Int),a,a,a] #[o I a,o I a,o I a,o I a] (n:=4) rfl rfl HB1.out.size (by unfold maxLen;omega))
  have HB2:=h_ (HB1.out.alloc HB1.out.size (J #[o I a,o I a,o I a,o I a] 2));have HP:=h_ (OP.one (S:=S) HB2.out HSS.out (PV.own HO.out HSS.out));have HB3:=h_ (HB2.out.alloc HB2.out.size (J #[F (some ⟨(w.alloc (J #[o I a,o I a] 37)).heap.size,0,none⟩) 4 4] 24))
  go_enter Tryz.func203,Tryz.ntmps203
  go_wp2
  go_ret
  have e:castD (dice a a)=[[(a:Int),a,a,a]]:=by rw[gr];rfl
  rw[e]
  refine⟨w.heap.size+1+1,0,1,1,rfl,?_,by omega,?_⟩
  ·have h:=HP.out;simpa using h
  ·have h:=HB3.out;simpa using h
 ·have b0:((a:Int)==(b:Int))=false:=by simp;omega
  have HB1:Hid (Below w.heap.size w (w.alloc (J #[o I a,o I b] 37))):=(qd _ _).alloc (qb _) _
  have HO1:=h_ (OwnS.made (w.alloc (J #[o I a,o I b] 37)) (base:=w.heap.size) 2 [(a:Int),b] #[o I a,o I b] (n:=2) rfl rfl HB1.out.size (by unfold maxLen;omega))
  have HB2:=h_ (HB1.out.alloc HB1.out.size (J #[o I a,o I b] 2))
  have HO2:=h_ (OwnS.made ((w.alloc (J #[o I a,o I b] 37)).alloc (J #[o I a,o I b] 2)) (base:=w.heap.size) 2 [(b:Int),a] #[o I b,o I a] (n:=2) rfl rfl HB2.out.size (by unfold maxLen;omega))
  have HO3:=h_ (HO1.out.alloc' (J #[o I b,o I a] 2));have HB3:=h_ (HB2.out.alloc HB2.out.size (J #[o I b,o I a] 2))
  have HP:=h_ (OP.made (S:=S) (e:=24) _ HB3.out.size HSS.out ((PVs.one (PV.own HO3.out HSS.out)).snoc (PV.own HO2.out HSS.out)) (by unfold maxLen;simp))
  have HB4:=h_ (HB3.out.alloc HB3.out.size (J #[F (some ⟨(w.alloc (J #[o I a,o I b] 37)).heap.size,0,none⟩) 2 2,F (some ⟨((w.alloc (J #[o I a,o I b] 37)).alloc (J #[o I a,o I b] 2)).heap.size,0,none⟩) 2 2] 24))
  go_enter Tryz.func203,Tryz.ntmps203
  go_wp2
  go_ret
  have e:castD (dice a b)=[[(a:Int),b],[(b:Int),a]]:=by rw[fc hab];rfl
  rw[e];obtain⟨A,c,hv,hpl,_⟩:=HP.out.read;injection hv with h1 h2 h3;subst h1
  refine⟨w.heap.size+1+1+1,0,2,2,rfl,?_,by omega,?_⟩
  ·simpa using hpl
  ·have h:=HB4.out;simpa using h
open Go.RowKit Pl Ps
theorem Tryz.infoPSS:(Tryz.prog.info? 193).map (fun i=>(i.zero,i.size,i.bytes))=some (some (F none 0 0),1,24):=by kernel_rfl
def SqV(S:Nat->Prop)(w:jz)(m:Nat)(v:j1)(row:List Bd)(k:Nat):Prop:=∃g c A c9,v=F (some ⟨g,0,none⟩) (k+1) c/\k+1<=c/\¬S g/\g<w.heap.size/\w.cell? ⟨g,k,none⟩=some (F A row.length c9)/\row.length<=c9/\PLs S w m A row.length row
def SqS(S:Nat->Prop)(w:jz)(m base:Nat)(v:j1)(Q:List (List Bd×Nat)):Prop:=∃cs,w.ownsRow base 193 1 v Q.length cs/\(∀i,i<Q.length->SqV (wth S v) w m (cs.getD i undef) (Q.getD i ([],0)).1 (Q.getD i ([],0)).2)/\∀k,v.ownBlock=some k->¬S k
section
variable {S S':Nat->Prop}{w w':jz}{m k base:Nat}{v:j1}{row:List Bd}{Q:List (List Bd×Nat)}
theorem SqV.frm(h:SqV S w m v row k)(hf:Frm S w w'):SqV S w' m v row k:=
 let ⟨g,c,A,c9,h1,h2,h3,h4,h5,h6,h7⟩:=h;⟨g,c,A,c9,h1,h2,h3,Nat.lt_of_lt_of_le h4 hf.size,hf.cell' h5 h3,h6,h7.frm hf⟩
theorem SqV.set(h:SqV S w m v row k)(hS:∀k,S' k->S k\/w.heap.size<=k):SqV S' w m v row k:=
 let ⟨g,c,A,c9,h1,h2,h3,h4,h5,h6,h7⟩:=h;⟨g,c,A,c9,h1,h2,fun h9=>(hS g h9).elim h3 (fun h8=>absurd h4 (by omega)),h4,h5,h6,h7.set hS⟩
theorem SqS.nil_(S:Nat->Prop)(w:jz)(m base:Nat):SqS S w m base (F none 0 0) []:=⟨[],World.ownsRow_nil _ _ _ _,fun i hi=>absurd hi (by simp),fun k hk=>by cases hk⟩
theorem SqS.below(h:SqS S w m base v Q)(hb:Below w.heap.size w w'):SqS S w' m base v Q:=let ⟨cs,h1,h2,h3⟩:=h;⟨cs,own_below h1 hb,fun i hi=>(h2 i hi).frm (Frm.of_below' _ hb),h3⟩
theorem SqS.grew{w1:jz}{v' u:j1}{cs:List j1}(h2:∀i,i<Q.length->SqV (wth S v) w m (cs.getD i undef) (Q.getD i ([],0)).1 (Q.getD i ([],0)).2)(hcl:cs.length=Q.length)(hu:SqV (wth S v) w m u row k)(hown:w1.ownsRow base 193 1 v' (Q.length+1) (cs++[u]))
  (hg:w.grownBy w1 v.ownBlock) (hat:v'.ownBlock=v.ownBlock\/v'.ownBlock=some w.heap.size) (hv:∀k,v.ownBlock=some k->¬S k) (hn:¬S w.heap.size):SqS S w1 m base v' (Q++[(row,k)]):=by
 refine⟨cs++[u],by rw[qg];exact hown,fun i hi=>?_,fun q hq=>?_⟩
 ·have h1:SqV (wth S v) w m ((cs++[u]).getD i undef) ((Q++[(row,k)]).getD i ([],0)).1 ((Q++[(row,k)]).getD i ([],0)).2:=by
   rw[qg]at hi
   by_cases hlt:i<Q.length
   ·rw[bG _ _ _ (by omega),bG _ _ _ hlt];exact h2 i hlt
   ·have e:i=Q.length:=by simp at hi;omega
    subst e
    rw[aK _ _ _ (by omega),aK _ _ _ (by omega),hcl,Nat.sub_self]
    exact hu
  have h3:=h1.set (S':=fun k=>wth S v k\/wth S v' k) fun k hk=>hk.elim .inl (jw hat k)
  exact(h3.frm ((dB hg).mono fun k hk=>.inl hk)).set fun k hk=>.inl (.inr hk)
 ·rcases hat with h|h
  ·exact hv q (by rw[<-h];exact hq)
  ·rw[h]at hq;injection hq with hq;rw[<-hq];exact hn
end
def Qs(P h:Nat)(b:Bd)(DS:List (List Nat)):List (List Bd×Nat):=DS.map fun ds=>longP P h [b] ds
def allF(P h:Nat)(b:Bd)(DS:List (List Nat)):Bool:=DS.all fun ds=>fineP P h [b] ds
theorem allF_dice(P h:Nat)(b:Bd)(ra rb:Nat):allF P h b (dice ra rb)=fineR P h b ra rb:=by
 unfold allF fineR dice
 by_cases e:ra=rb
 ·rw[if_pos e,if_pos e];simp
 ·rw[if_neg e,if_neg e];simp
theorem ir(ra rb:Nat):1<=(dice ra rb).length/\(dice ra rb).length<=2:=by unfold dice;split<;>simp
theorem j9{ra rb B:Nat}(ha:1<=ra/\ra<=B)(hb:1<=rb/\rb<=B):∀ds∈dice ra rb,ds.length<=4/\∀d∈ds,1<=d/\d<=B:=by
 intro ds hds
 unfold dice at hds
 split at hds
 ·simp at hds;subst hds;simp[ha]
 ·simp at hds;rcases hds with rfl|rfl<;>simp[ha,hb]
def RetSs(w:jz)(Q:List (List Bd×Nat))(fl:Bool)(e:Ending)(w':jz):Prop:=∃v,e=K (.tuple #[v,.bool fl])/\SqS (fun k=>k<w.heap.size) w' 4 w.heap.size v Q/\Below w.heap.size w w'
theorem lP(P h C ra rb:Nat)(c s:Int)(A1 A2:Option Addr)(n1 c1 n2 c2:Nat)(own other:List Int)(w:jz)(h1:SL w A1 n1 own)(h2:SL w A2 n2 other)(hb:Sd P C (own,other))(hC:C<=255)(hP:P<=24)(hh:h<=1000)(ha:1<=ra/\ra<=1000)(hbb:1<=rb/\rb<=1000):
  qa qh 168 #[(.agg #[o I (P:Int),o I c,o I (h:Int),o I s]),.agg #[F A1 n1 c1,F A2 n2 c2],.agg #[o I (ra:Int),o I (rb:Int)]] w (RetSs w (Qs P h (own,other) (dice ra rb)) (fineR P h (own,other) ra rb)):=by
 obtain⟨j0,hj,jz0,jz1,jz2⟩:=info_parts Tryz.infoPSS;have HDB:=h_ (j9 ha hbb);have HDL:=h_ (ir ra rb)
 have CO:=h_ fun(W:jz)=>iY (fun _=>False) ra rb W (fun _ _ h=>h)
 have CS:Hid (∀(ds:List Nat) (B:Option Addr) (nb cb:Nat) (W:jz),Below w.heap.size w W->SL W B nb (ds.map (Nat.cast:Nat->Int))->ds∈dice ra rb->qa qh 204 #[(.agg #[o I (P:Int),o I c,o I (h:Int),o I s]),.agg #[F A1 n1 c1,F A2 n2 c2],F B nb cb] W (RetSq W 4 (longP P h [(own,other)] ds).1 (longP P h [(own,other)] ds).2 (fineP P h [(own,other)] ds))):=fun ds B nb cb W hw hs hm=>
  jH P h C c s A1 A2 B n1 c1 n2 c2 nb cb own other ds W (h1.below hw) (h2.below hw) hb hC hP hh hs (HDB.out ds hm).2 (HDB.out ds hm).1
 have HGF:Hid (fineR P h (own,other) ra rb=allF P h (own,other) (dice ra rb)):=(allF_dice _ _ _ _ _).symm
 have HF:Hid (Fr w (((w.alloc (J #[o I (P:Int),o I c,o I (h:Int),o I s] 33)).alloc (J #[F A1 n1 c1,F A2 n2 c2] 35)).alloc (J #[o I (ra:Int),o I (rb:Int)] 37)) [[o I (P:Int),o I c,o I (h:Int),o I s],[F A1 n1 c1,F A2 n2 c2],[o I (ra:Int),o I (rb:Int)]]):=(((Fr.start w).allocT (by simp) _ _).allocT (by simp) _ _).allocT (by simp) _ _
 clear h1 h2 hb ha hbb;generalize fineR P h (own,other) ra rb=R3 at *;generalize hDS:dice ra rb=DS at *;clear hDS
 go_enter Tryz.func168,Tryz.ntmps168
 go_wp2_with (fail)
 refine(CO.out _).mono ?_
 rintro e w3 ⟨b,off,no,co,rfl,hpl,hco,hb3⟩
 have HF3:=h_ (HF.out.below hb3);have HPL:=h_ hpl;have HB3:Hid (w.heap.size+3<=w3.heap.size):=HF3.out.z
 have hno:DS.length=no:=by have:=hpl.len;simp only[castD,List.length_map]at this;exact this
 have hno2:no<=2:=by have:=HDL.out;omega
 clear hpl hb3 HF CO
 go_wp2_with (fail)
 go_loopw [8,9,17] (fun v8 v9 v17 wr=>∃(i:Nat) (fl:Bool),i<=no/\v17=o I i/\v9= .bool fl/\(∃vx,vx=v8/\Hid (SqS (fun k=>k<w3.heap.size) wr 4 w3.heap.size vx (Qs P h (own,other) (DS.take i))))/\Hid (fl=allF P h (own,other) (DS.take i))/\Hid (Below w3.heap.size w3 wr)/\Hid (Fr w wr [[o I (P:Int),o I c,o I (h:Int),o I s],[F A1 n1 c1,F A2 n2 c2],[o I (ra:Int),o I (rb:Int)]])) (fun _ _ v17 _=>no-(intOf v17).toNat)
 case atStart=>exact⟨0,true,by omega,rfl,rfl,⟨_,rfl,SqS.nil_ _ _ _ _⟩,rfl,qd _ _,HF3.out⟩
 case round=>
  clear HF3;obtain⟨i,fl,hin,rfl,rfl,⟨vx,rfl,HSQ⟩,HFL,HB,HF⟩:=hrel
  by_cases hlt:i<no
  focus
   have hji:(i:Int)<(no:Int):=by omega
   obtain⟨b9,o9,B,mB,cB,hA9,hbl,y0,hsq,_⟩:=HPL.out.at hlt;injection hA9 with hA9;injection hA9 with hA9 hA8;subst hA9 hA8;have hy0:=(Frm.of_below HB.out).cell' y0 id;obtain⟨ds,hds⟩:∃ds,ds=DS.getD i []:=⟨_,rfl⟩
   have hcd:(castD DS).getD i []=ds.map (Nat.cast:Nat->Int):=by
    rw[hds]
    simp only[castD,List.getD_eq_getElem?_getD,List.getElem?_map]
    cases DS[i]?<;>rfl
   rw[hcd]at hsq
   have HDM:Hid (ds∈DS):=by unfold Hid;rw[hds];exact ak DS [] (by omega)
   have HTQ:Hid (Qs P h (own,other) (DS.take (i+1))=Qs P h (own,other) (DS.take i)++[longP P h [(own,other)] ds]):=by
    unfold Hid Qs
    rw[bQ [] (by omega),List.map_append,hds];rfl
   have HAL:Hid (allF P h (own,other) (DS.take (i+1))=(allF P h (own,other) (DS.take i)&&fineP P h [(own,other)] ds)):=by
    unfold Hid allF
    rw[bQ [] (by omega),List.all_append,hds];simp
   have CQ:=h_ fun(W:jz) (hw:Below w3.heap.size w3 W) (hw2:Below w.heap.size w W)=>CS.out ds B mB cB W hw2 (hsq.1.below hw) HDM.out
   have HQL:Hid ((Qs P h (own,other) (DS.take i)).length<=2):=by
    unfold Hid Qs
    rw[List.length_map,List.length_take];omega
   have hz3:w3.heap.size<=wr.heap.size:=HB.out.size;clear y0 hsq hcd hds;generalize hLP:longP P h [(own,other)] ds=LP at *;generalize fineP P h [(own,other)] ds=ok at *;obtain⟨row,kk⟩:=LP;clear hLP;have c00:=HF.out.c0 0 rfl;have c01:=HF.out.c0 1 rfl;have c02:=HF.out.c0 2 rfl;have c03:=HF.out.c0 3 rfl;have c10:=HF.out.c1 0 rfl;have c11:=HF.out.c1 1 rfl
   go_wp2_with (fail)
   clear c00 c01 c02 c03 c10 c11
   refine(CQ.out _ HB.out HF.out.b).mono ?_
   rintro e w4 ⟨g,cg,Ag,c9,rfl,hkc,hg1,hg2,hgc,hrc,hpl,hb4⟩
   have HF4:=h_ (HF.out.below hb4);have hz4:wr.heap.size<=w4.heap.size:=hb4.size;obtain⟨cs,hrow,hcs,hnb⟩:=HSQ.out.below hb4
   have HVB:Hid (∀k,vx.ownBlock=some k->w3.heap.size<=k/\k<wr.heap.size):=fun k hk=>by
    obtain⟨cs',hrow',_,_⟩:=HSQ.out
    exact qe hrow' k hk
   obtain⟨K1,hK1⟩:∃K1,K1=kk+1:=⟨_,rfl⟩
   have HU:Hid (SqV (wth (fun k=>k<w3.heap.size) vx) w4 4 (F (some ⟨g,0,none⟩) K1 cg) row kk):=by
    have hst:∀k,wth (fun k=>k<w3.heap.size) vx k->k<wr.heap.size:=fun k hk=>by
     rcases hk with hk|hk
     ·have hk:k<w3.heap.size:=hk;omega
     ·exact(HVB.out k hk).2
    exact⟨g,cg,Ag,c9,by rw[hK1],hkc,fun h9=>by have:=hst g h9;omega,hg2,hgc,hrc,hpl.set fun k hk=>.inl (hst k hk)⟩
   rw[<-hK1];have HROW:Hid ((w4.alloc (J #[F (some ⟨g,0,none⟩) K1 cg] 193)).ownsRow w3.heap.size 193 1 vx (Qs P h (own,other) (DS.take i)).length cs):=World.ownsRow.alloc hrow _;have HNW:Hid (∀j u,[Value.slice (some ⟨g,0,none⟩) K1 cg][j]? =some u->(w4.alloc (J #[F (some ⟨g,0,none⟩) K1 cg] 193)).cell? ((⟨w4.heap.size,0,none⟩:Addr).add j)=some u):=one_new w4 (F (some ⟨g,0,none⟩) K1 cg) 193
   have hza:(w4.alloc (J #[F (some ⟨g,0,none⟩) K1 cg] 193)).heap.size=w4.heap.size+1:=by simp
   have HFIN:Hid (∀v' w6,w6.ownsRow w3.heap.size 193 1 v' ((Qs P h (own,other) (DS.take i)).length+1) (cs++[F (some ⟨g,0,none⟩) K1 cg])->(w4.alloc (J #[F (some ⟨g,0,none⟩) K1 cg] 193)).grownBy w6 vx.ownBlock->(v'.ownBlock=vx.ownBlock\/v'.ownBlock=some (w4.alloc (J #[F (some ⟨g,0,none⟩) K1 cg] 193)).heap.size)->
     Hid (SqS (fun k=>k<w3.heap.size) w6 4 w3.heap.size v' (Qs P h (own,other) (DS.take (i+1))))/\Hid (Below w3.heap.size w3 w6)/\Hid (Fr w w6 [[o I (P:Int),o I c,o I (h:Int),o I s],[F A1 n1 c1,F A2 n2 c2],[o I (ra:Int),o I (rb:Int)]])):=fun v' w6 q1 q2 q3=>by
    have hba:Below w4.heap.size w4 (w4.alloc (J #[F (some ⟨g,0,none⟩) K1 cg] 193)):=(qd _ _).alloc (qb _) _
    refine⟨?_,?_,?_⟩
    ·unfold Hid
     rw[HTQ.out]
     refine SqS.grew (fun j hj=>(hcs j hj).frm (Frm.of_below' _ hba)) (by have:=hrow.1;omega) (HU.out.frm (Frm.of_below' _ hba)) q1 q2 q3 hnb (fun h9=>?_)
     have h9:(w4.alloc (J #[F (some ⟨g,0,none⟩) K1 cg] 193)).heap.size<w3.heap.size:=h9
     omega
    ·exact(HB.out.trans ((hb4.trans (hba.mono hz4)).mono hz3)).grown q2 (by omega) (fun x hx=>(HVB.out x hx).1)
    ·exact(HF4.out.alloc _).frm (Frm.of_grown q2) (fun k hk=>by have:=HVB.out k hk.symm;have:=HF4.out.z;simp at this;have:=HF.out.z;simp at this;have:=HB3.out;omega) (fun k hk=>by have:=HVB.out k hk.symm;have:=HB3.out;simp;omega)
   clear hrow hcs hnb HSQ HB HF CQ hza hg1 hg2 hgc hrc hpl hb4 HU hK1
   rcases ok with _|_
   focus
    rcases fl with _|_
    focus
     refine ?za
    rotate_left
    focus
     refine ?zc
   rotate_left 2
   focus
    rcases fl with _|_
    focus
     refine ?zd
    rotate_left
    focus
     refine ?zb
  rotate_left 4
  ·have hji:¬(i:Int)<(no:Int):=by omega
   have HRE:Hid (RetSs w (Qs P h (own,other) DS) R3 (K (.tuple #[vx,.bool fl])) wr):=by
    rw[HFL.out,HGF.out,qf (by omega)]
    have h9:=HSQ.out
    rw[qf (by omega)]at h9
    obtain⟨cs,q1,q2,-⟩:=h9;have hw3:=HB3.out
    exact⟨vx,rfl,⟨cs,aB q1 (by omega),fun i hi=>(q2 i hi).set fun k hk=>.inl (hk.imp (fun h=>by show k<w3.heap.size;have h:k<w.heap.size:=h;omega) id),fun k hk h=>by have:=(qe q1 k hk).1;have h:k<w.heap.size:=h;omega⟩,HF.out.b⟩
   clear HSQ
   go_wp2_with (fail)
   go_ret2
   exact HRE.out
  case' za|zb|zc|zd=>
   go_wp2_with (at_builtin;(refine wpList_append_own_at _ rfl _ _ 188 rfl w3.heap.size 193 j0 (F none 0 0) 1 24 Tryz.underlying188 hj jz0 jz1 jz2 rfl (by decide) _ _ _ rfl HROW.out ⟨w4.heap.size,0,none⟩ 1 1 [F (some ⟨g,0,none⟩) K1 cg] rfl rfl HNW.out (aI _ _ _) (by unfold maxLen;have:=HQL.out;omega) (by have:=HQL.out;omega) (by simp;omega) ?_);intro v' w6 hown hgrow _ hat)
   obtain⟨HSQ6,HB6,HF6⟩:=HFIN.out v' w6 hown hgrow hat;clear hown hgrow hat HROW HNW HFIN
  case zb=>
   exact⟨⟨i+1,true,by omega,by go_num,rfl,⟨v',rfl,HSQ6⟩,(by unfold Hid;rw[HAL.out,<-HFL.out];rfl),HB6,HF6⟩,by simp[intOf];omega⟩
  case za|zc|zd=>
   exact⟨⟨i+1,false,by omega,by go_num,rfl,⟨v',rfl,HSQ6⟩,(by unfold Hid;rw[HAL.out,<-HFL.out];rfl),HB6,HF6⟩,by simp[intOf];omega⟩
open Go.RowKit Pl Ps
theorem eX{P h:Nat}:∀(ds:List Nat) (row:List Bd),(longP P h row ds).2<=ds.length
 | [],row=>qb _
 |d::ds,row=>by
   unfold longP
   split
   ·simp
   ·have:=eX (P:=P) (h:=h) ds (nextB P h d row);simp only [List.length_cons];omega
theorem mg{P h:Nat}:∀(ds:List Nat) (row:List Bd),row≠[]->(longP P h row ds).1≠[]
 | [],row,hr=>hr
 |d::ds,row,hr=>by
   unfold longP
   split
   ·exact hr
   ·rename_i hn;exact mg ds _ hn
theorem gX{P h:Nat}(hP:P<=24):∀(ds:List Nat) (row:List Bd),(longP P h row ds).1.length<=row.length*25^ds.length
 | [],row=>by simp[longP]
 |d::ds,row=>by
   unfold longP
   split
   ·exact Nat.le_mul_of_pos_right _ (Nat.pow_pos (by decide))
   · have h1:=gX (P:=P) (h:=h) hP ds (nextB P h d row)
     have h2:=dr (p:=P) (h:=h) (die:=d) (k:=P+1) (bs:=row) (out:=[]) (fun _ _=>cR)
     rw [List.length_nil,Nat.zero_add]at h2
     have h3:(nextB P h d row).length<=row.length*25:=qc h2 (Nat.mul_le_mul_left _ (by omega))
     have h4:=Nat.mul_le_mul_right (25^ds.length) h3;rw [List.length_cons,Nat.pow_succ,Nat.mul_comm (25^ds.length) 25, <-Nat.mul_assoc]
     exact qc h1 h4
def maxQ(Q:List (List Bd×Nat)):Nat:=Q.foldl (fun m x=>max m x.2) 0
theorem maxQ_take{Q:List (List Bd×Nat)}{i:Nat}(hi:i<Q.length):maxQ (Q.take (i+1))=max (maxQ (Q.take i)) (Q.getD i ([],0)).2:=by
 unfold maxQ
 rw[bQ ([],0) hi,List.foldl_append];rfl
def allQ(n:Nat):List (List Bd×Nat)->List Bd->List Bd
 | [],acc=>acc
 |(row,k)::Q,acc=>if k+1<=n then allQ n Q acc else if n=1 then joinP acc row else allQ n Q (joinP acc row)
theorem cS:∀(L acc:List Bd),(joinP acc L).length<=acc.length+L.length
 | [],acc=>qb _
 |b::L,acc=>by
   have h1:=cS L (addN acc b)
   have h2:(addN acc b).length<=acc.length+1:=by unfold addN;split<;>simp
   have e:joinP acc (b::L)=joinP (addN acc b) L:=rfl
   rw [e,List.length_cons];omega
theorem fD:∀(L acc:List Bd),acc≠[]\/L≠[]->joinP acc L≠[]
 | [],acc,h=>h.elim id (fun h=>absurd rfl h)
 |b::L,acc,_=>fD L (addN acc b) (.inl (by unfold addN;split<;>intro h9<;>simp_all))
theorem bothP_allQ(L1 L2:List Bd×Nat)(h1:L1.1≠[])(hn:max L1.2 L2.2≠0):bothP L1 L2=allQ (max L1.2 L2.2) [L1,L2] []:=by
 obtain⟨a,x⟩:=L1;obtain⟨b,y⟩:=L2
 simp only at h1 hn
 have hj:=fD a [] (.inr h1)
 have q1:allQ (max x y) [(a,x),(b,y)] []=if x+1<=max x y then allQ (max x y) [(b,y)] []else if max x y=1 then joinP [] a else allQ (max x y) [(b,y)] (joinP [] a):=rfl
 have q2:∀acc,allQ (max x y) [(b,y)] acc=if y+1<=max x y then acc else if max x y=1 then joinP acc b else joinP acc b:=fun _=>rfl
 have q3:∀acc,allQ (max x y) [(b,y)] acc=if y=max x y then joinP acc b else acc:=fun acc=>by
  rw[q2]
  by_cases hy:y=max x y
  ·rw[if_pos hy,if_neg (by omega)];split<;>rfl
  ·rw[if_neg hy,if_pos (by omega)]
 rw[q1,q3,q3]
 show(if y=max x y/\¬(max x y=1/\cj (a,x) (b,y)≠[])then joinP (cj (a,x) (b,y)) b else cj (a,x) (b,y))=_
 unfold cj
 simp only
 by_cases hx:x=max x y
 ·have r1:¬(x+1<=max x y):=by omega
  rw[if_neg r1]
  simp only[if_pos hx]
  by_cases h1m:max x y=1
  ·rw[if_pos h1m]
   exact if_neg (fun h9=>h9.2 ⟨h1m,hj⟩)
  ·rw[if_neg h1m]
   by_cases hy:y=max x y
   ·rw[if_pos hy]
    exact if_pos ⟨hy,fun h9=>h1m h9.1⟩
   ·rw[if_neg hy]
    exact if_neg (fun h9=>hy h9.1)
 ·have r1:x+1<=max x y:=by omega
  have hy:y=max x y:=by omega
  rw[if_pos r1,if_pos hy]
  simp only[if_neg hx]
  exact if_pos ⟨hy,fun h9=>h9.2 rfl⟩
theorem playsP_allQ{P h ra rb:Nat}{b:Bd}(hn:maxQ (Qs P h b (dice ra rb))≠0):playsP P h b ra rb=allQ (maxQ (Qs P h b (dice ra rb))) (Qs P h b (dice ra rb)) []:=by
 unfold playsP
 by_cases e:ra=rb
 ·subst e
  rw[if_pos rfl,gr];have q1:Qs P h b [[ra,ra,ra,ra]]=[longP P h [b] [ra,ra,ra,ra]]:=rfl;rw[q1];generalize longP P h [b] [ra,ra,ra,ra]=L;obtain⟨a,x⟩:=L;unfold maxQ allQ
  simp only[List.map_cons,List.map_nil,List.foldl_cons,List.foldl_nil,Nat.zero_max]
  rw[if_neg (by omega)]
  unfold allQ
  split<;>rfl
 ·rw[if_neg e]
  rw[fc e]at hn ⊢
  have e2:maxQ (Qs P h b [[ra,rb],[rb,ra]])=max (longP P h [b] [ra,rb]).2 (longP P h [b] [rb,ra]).2:=by
   unfold Qs maxQ
   simp only[List.map_cons,List.map_nil,List.foldl_cons,List.foldl_nil,Nat.zero_max]
  rw[e2]at hn ⊢
  exact bothP_allQ _ _ (mg _ _ (by simp)) hn
theorem iJ{P h:Nat}:∀(ds:List Nat) (row:List Bd),(longP P h row ds).2=0->(longP P h row ds).1=row
 | [],row,_=>rfl
 |d::ds,row,h0=>by
   unfold longP at h0 ⊢
   split at h0
   ·rename_i hn;rw [if_pos hn]
   ·simp at h0
theorem playsP_zero{P h ra rb:Nat}{b:Bd}(hn:maxQ (Qs P h b (dice ra rb))=0):playsP P h b ra rb=[b]:=by
 have hj:joinP [] [b]=[b]:=rfl;unfold playsP
 by_cases e:ra=rb
 ·subst e
  rw[if_pos rfl];rw[gr]at hn
  have h0:(longP P h [b] [ra,ra,ra,ra]).2=0:=by unfold Qs maxQ at hn;simpa using hn
  rw[iJ _ _ h0,hj]
 ·rw[if_neg e]
  rw[fc e]at hn
  have e2:maxQ (Qs P h b [[ra,rb],[rb,ra]])=max (longP P h [b] [ra,rb]).2 (longP P h [b] [rb,ra]).2:=by
   unfold Qs maxQ
   simp only[List.map_cons,List.map_nil,List.foldl_cons,List.foldl_nil,Nat.zero_max]
  rw[e2]at hn
  have x1:(longP P h [b] [ra,rb]).2=0:=by omega
  have x2:(longP P h [b] [rb,ra]).2=0:=by omega
  have q1:longP P h [b] [ra,rb]=([b],0):=Prod.ext (iJ _ _ x1) x1;have q2:longP P h [b] [rb,ra]=([b],0):=Prod.ext (iJ _ _ x2) x2;rw[q1,q2];have hf:cj ([b],0) ([b],0)=[b]:=rfl;unfold bothP;rw[hf]
  simp only
  rw[if_pos ⟨rfl,fun h9=>absurd h9.1 (by decide)⟩]
  simp[joinP,addN]
theorem used_any(S:Nat->Prop)(m c:Nat)(A:Option Addr)(cs:List j1)(Q:List (List Bd×Nat))(w:jz)(hx:SLZ 1 (fun _=>False) w A Q.length cs)(hq:∀i,i<Q.length->SqV S w m (cs.getD i undef) (Q.getD i ([],0)).1 (Q.getD i ([],0)).2)(hl:Q.length<=1000)(hk:∀i,i<Q.length->(Q.getD i ([],0)).2<=1000):
  qa qh 169 #[F A Q.length c] w fun e w'=>e=K (o I (maxQ Q:Int))/\Below w.heap.size w w':=by
 have HX:=h_ hx;have HQ:=h_ hq;have HK:=h_ hk;obtain⟨n,hn⟩:∃n,n=Q.length:=⟨_,rfl⟩;have HN:=h_ hn;rw[<-hn]at hl ⊢
 have HE:Hid (maxQ Q=maxQ (Q.take n)):=by unfold Hid;rw[hn,List.take_length]
 generalize maxQ Q=M at *;clear hx hq hk hn
 go_enter Tryz.func169,Tryz.ntmps169
 go_wp2_with (fail)
 go_loopw [3,8] (fun v3 v8 wr=>∃(i t:Nat),i<=n/\t<=1000/\Hid (t=maxQ (Q.take i))/\v8=o I i/\v3=o I t/\Hid (Below w.heap.size w wr)) (fun _ v8 _=>n-(intOf v8).toNat)
 case atStart=>exact⟨0,0,by omega,by omega,rfl,rfl,rfl,qd _ _⟩
 case round=>
  obtain⟨i,t,hin,ht,HT,rfl,rfl,HB⟩:=hrel
  by_cases hlt:i<n
  ·have hji:(i:Int)<(n:Int):=by omega
   obtain⟨b,off,rfl,hbl,_,hcell⟩:=HX.out.2 (by have:=HN.out;omega)
   have y0:=(Frm.of_below HB.out).cell' (hcell i (by have:=HN.out;omega)) id
   obtain⟨g,cg,_,_,hv,hkc,_⟩:=HQ.out i (by have:=HN.out;omega)
   rw[hv]at y0
   have hk9:=HK.out i (by have:=HN.out;omega)
   have HT2:Hid (max t (Q.getD i ([],0)).2=maxQ (Q.take (i+1))):=by
    unfold Hid
    rw[maxQ_take (by have:=HN.out;omega),HT.out]
   generalize (Q.getD i ([],0)).2=k at *;obtain⟨k1,hk1⟩:∃k1,k1=k+1:=⟨_,rfl⟩;rw[<-hk1]at y0
   have hkk:(k1:Int)-1=(k:Int):=by omega
   clear hcell hv hkc hk1
   go_wp2_with (fail)
   refine⟨⟨i+1,max t k,by omega,by omega,HT2,by congr 1,?_,HB⟩,by simp[intOf];omega⟩
   congr 1
   split<;>omega
  ·have hji:¬(i:Int)<(n:Int):=by omega
   have HR:Hid (t=M):=by unfold Hid;rw[HE.out,HT.out,show i=n by omega]
   go_wp2_with (fail)
   go_ret
   exact⟨by rw[HR.out];rfl,HB.out⟩
end Go.Proofs.YtcmeoenkgmghkaaGreat

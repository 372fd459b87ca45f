/- Contract of putting a position at its place in a list, the reference's. There are no conditions. -/
import Derived.Test.YtkaiilmgemaljaaGreatPZe
set_option linter.unusedVariables false
set_option linter.unusedSimpArgs false
namespace Go.Proofs.YtkaiilmgemaljaaGreat
open Go.RowKit Ps
theorem PVs.slices {S:Nat→Prop} {w:World} {cs:List Value} {ps:List (List Int)} (h:PVs S w cs ps):∀u∈cs,u.oneCell'=true:=by
 intro u hu
 obtain⟨i,hi,rfl⟩:=List.getElem_of_mem hu;obtain⟨A,n,c,he,_⟩:=h.2 i hi
 have:cs.getD i undef=cs[i]:=by simp[List.getD,hi]
 rw[this]at he
 rw[he];rfl
theorem SLZ.news {S:Nat→Prop} {w w':World} {b off n:Nat} {cs:List Value} (h:SLZ 1 S w (some ⟨b,off,none⟩) n cs) (hb:Below w.heap.size w w') (lo k:Nat):
  ∀j u,((cs.drop lo).take k)[j]? = some u→w'.cell? ((⟨b,off+lo,none⟩:Addr).add j)=some u:=by
 intro j u hu
 have hj:lo+j<cs.length∧j<k:=by
  have:=(List.getElem?_eq_some_iff.1 hu).1
  simp at this;omega
 have hl:=h.1
 obtain⟨b',off',hA,hlt,_,hc⟩:=h.2 (by omega)
 injection hA with hA;injection hA with h1 h2 h3;subst h1 h2
 have e:cs.getD (lo+j) undef=u:=by
  rw[List.getElem?_take]at hu
  simp[hj.2]at hu
  simp[List.getD,hu]
 rw[Addr.add_lit,Nat.add_assoc]
 refine keep_cell ?_ hb
 rw[hc (lo+j) (by omega),e]
def RetL (S:Nat→Prop) (w:World) (ps:List (List Int)) (e:Ending) (w':World):Prop:=∃b off n c,e = .returned (.slice (some ⟨b,off,none⟩) n c)∧PL S w' (some ⟨b,off,none⟩) n ps∧n≤c∧Below w.heap.size w w'
theorem OP.ret {S:Nat→Prop} {w w':World} {base:Nat} {e:TypeId} {v:Value} {ps:List (List Int)} (h:OP S w' base e v ps) (hne:ps≠[]) (hb:Below w.heap.size w w'):RetL S w ps (.returned v) w':=by
 obtain⟨cs,hrow,hp,hv⟩:=h;have h2:OP S w' base e v ps:=⟨cs,hrow,hp,hv⟩;obtain⟨A,c,rfl,hpl,hc⟩:=h2.read;obtain⟨_,h3⟩:=hrow
 rcases h3 with⟨h3,h4⟩|⟨g,cap,cur,h3,_⟩
 ·exact absurd (List.eq_nil_of_length_eq_zero h4) hne
 ·injection h3 with h5
  subst h5
  exact⟨g,0,_,c,rfl,hpl,hc,hb⟩
theorem putL_new {l:List (List Int)} {p:List Int} {k:Nat} (hk:k≤l.length) (h1:∀j,j<k→befB (l.getD j []) p=true) (h2:k<l.length→befB (l.getD k []) p=false) (h3:k<l.length→befB p (l.getD k [])=true):
  putL l p=l.take k++[p]++l.drop k:=by
 rw[putL_at l p k hk h1 h2,if_neg,List.append_assoc];rfl
 rintro⟨h4,h5⟩
 rw[h3 h4]at h5;cases h5
theorem putL_old {l:List (List Int)} {p:List Int} {k:Nat} (hk:k<l.length) (h1:∀j,j<k→befB (l.getD j []) p=true) (h2:befB (l.getD k []) p=false) (h3:befB p (l.getD k [])=false):putL l p=l:=by
 rw[putL_at l p k (by omega) h1 (fun _=>h2),if_pos ⟨hk,h3⟩]
theorem pos_bd {h c:Nat} {q:List Int} (hq:PosP h c q) (hc:c≤1000):∀x∈q,0≤x∧x≤1000:=by
 intro x hx
 refine⟨hq.2.1 x hx,?_⟩
 obtain⟨i,hi,rfl⟩:=List.getElem_of_mem hx;have h1:=getD_le_sum i hq.2.1;have h2:=hq.2.2
 have:q.getD i 0=q[i]:=by simp[List.getD,hi]
 omega
theorem PVs.into {S:Nat→Prop} {w W:World} {v:Value} {cs:List Value} {ps:List (List Int)} (h:PVs (fun k=>S k∨w.heap.size≤k) w cs ps) (hb:Below w.heap.size w W) (hv:∀k,v.ownBlock=some k→w.heap.size≤k):PVs (wth S v) W cs ps:=
 (h.frm (Frm.of_below' _ hb)).set fun k hk=>.inl (hk.elim .inl fun h=>.inr (hv k h))
set_option maxRecDepth 100000 in
set_option maxHeartbeats 4000000 in
theorem l10Put_any (S:Nat→Prop) (b off n c:Nat) (ps:List (List Int)) (B:Option Addr) (m cp:Nat) (p:List Int) (w:World) (hS:∀k,w.heap.size≤k→¬S k) (hl:PL S w (some ⟨b,off,none⟩) n ps) (hc:n≤c) (hn:n≤1000000)
  (hp:SQ S w B m p) (hmc:m≤cp) (hm:m≤24) (hpp:PosP m 15 p) (hps:∀q∈ps,PosP m 15 q):
  Calls Tryz.prog 174 #[.slice (some ⟨b,off,none⟩) n c,.slice B m cp] w (RetL S w (putL ps p)):=by
 obtain⟨i0,hi,hz0,hz1,hz2⟩:=info_parts Tryz.infoL;have HPL:=Lib.hid hl;have HSS:=Lib.hid hS;have hpl:=hl.len;have HLN:=Lib.hid hpl;have HSP:=Lib.hid hp
 have HPB:=Lib.hid (pos_bd hpp (by omega))
 have HPSB:Hid (∀q∈ps,(∀x∈q,0≤x∧x≤1000)∧q.length=m):=fun q hq=>⟨pos_bd (hps q hq) (by omega),(hps q hq).1⟩
 obtain⟨cs,hcz,hcs⟩:=hl;have HCZ:=Lib.hid hcz
 have HCS:Hid (PVs (fun k=>S k∨w.heap.size≤k) w cs ps):=hcs.set fun k hk=>hk
 have HPP:Hid (PV (fun k=>S k∨w.heap.size≤k) w (.slice B m cp) p):=⟨B,m,cp,rfl,hp.set fun k hk=>hk,hmc⟩
 have HLC:Hid (cs.length=n):=by unfold Hid;rw[hcz.1,Nat.mul_one]
 have HSC:=Lib.hid hcs.slices;clear hS hpl hp hpp hps hcz hcs
 go_enter Tryz.func174,Tryz.ntmps174
 go_wp2_with (fail)
 go_loopw [5] (fun vi wr=>∃k:Nat,k≤n∧vi = .int .i64 k∧Hid (∀j,j<k→befB (ps.getD j []) p=true)∧Hid (∃m,wr=w.drewN m)) (fun vi _=>n-(intOf vi).toNat)
 case atStart=>exact⟨0,by omega,rfl,fun j hj=>by omega,0,rfl⟩
 case round=>
  obtain⟨k,hk,rfl,hbf,hw⟩:=hrel
  by_cases hlt:k<n
  ·have hki:(k:Int)<(n:Int):=by omega
   obtain⟨b',o',Bq,mq,cq,hA,hz,hcell,hsq,hmq⟩:=(show PL S wr (some ⟨b,off,none⟩) n ps by obtain⟨m,hm⟩:=hw.out;rw[hm];exact HPL.out).at hlt
   injection hA with hA;injection hA with hA1 hA2;subst hA1 hA2
   have hmem:=getD_mem' ps ([]:List Int) (k:=k) (by have:=HLN.out;omega)
   have hq:=HPSB.out _ hmem
   have hqm:m=mq:=by rw[← hsq.1.1];exact hq.2.symm
   subst hqm
   have BF:=l10Before_any Bq B m cq cp (ps.getD k []) p wr hsq.1 (by obtain⟨m',hm'⟩:=hw.out;rw[hm'];exact HSP.out.1) (by omega) hq.1 HPB.out
   have BF2:∀W:World,(∃j,W=wr.drewN j)→Calls Tryz.prog 219 #[.slice B m cp,.slice Bq m cq] W fun e w'=>e = .returned (.bool (befB p (ps.getD k [])))∧∃j,w'=W.drewN j:=fun W ⟨j,hj⟩=>by
    subst hj
    exact l10Before_any B Bq m cp cq p (ps.getD k []) _ (by obtain⟨m',hm'⟩:=hw.out;rw[hm'];exact HSP.out.1) hsq.1 (by omega) HPB.out hq.1
   have HKT:Hid (k<ps.length):=by unfold Hid;rw[HLN.out];exact hlt
   clear hmem hq hsq
   rcases hb1:befB (ps.getD k []) p with _|_
   ·rcases hb2:befB p (ps.getD k []) with _|_
    ·have HPUT:Hid (putL ps p=ps):=putL_old HKT.out hbf.out hb1 hb2
     rw[hb1]at BF;rw[hb2]at BF2;replace BF:=Lib.hid BF;replace BF2:=Lib.hid BF2;clear hb1 hb2
     go_wp2_with (first
      | (go_at_call 219
         have _t4 := BF
         (
           (refine BF.out.mono ?_)
           rintro e w9 ⟨rfl, m1, hw9⟩
           have e9 : w9.cell? ⟨b, off + k, none⟩ = some (.slice Bq m cq) := by rw [hw9]; exact hcell
           have z9 : b < w9.heap.size := by rw [hw9]; exact hz
           replace hw9 := Lib.hid hw9
           clear BF _t4))
      | (go_at_call 219
         (
           (refine (BF2.out _ ⟨_, hw9.out⟩).mono ?_)
           rintro e w8 ⟨rfl, m2, hw8⟩
           replace hw8 := Lib.hid hw8)))
     go_ret
     have hww:∃j,w8=w.drewN j:=by
      obtain⟨j,hj⟩:=hw.out;rw[hw8.out,hw9.out]
      exact drw_ex (drw_ex hw.out)
     obtain⟨j,hj⟩:=hww;subst hj;rw[HPUT.out]
     exact⟨b,off,n,c,rfl,HPL.out,hc,below_drewN' (Below.refl _ _) _⟩
    ·have HPUT:Hid (putL ps p=(ps.take k++[p])++ps.drop k):=putL_new (by have:=HLN.out;omega) hbf.out (fun _=>hb1) (fun _=>hb2)
     rw[hb1]at BF;rw[hb2]at BF2;replace BF:=Lib.hid BF;replace BF2:=Lib.hid BF2;clear hb1 hb2
     have hck:¬c=k:=by omega
     have HBX:Hid (∀W:World,(∃j,W=wr.drewN j)→Below w.heap.size w W):=fun W ⟨j,hj⟩=>by
      obtain⟨j2,h2⟩:=hw.out
      rw[hj,h2];exact below_drewN' (below_drewN' (Below.refl _ _) _) _
     go_wp2_with (first
      | (go_at_call 219
         have _t4 := BF
         (refine BF.out.mono ?_)
         rintro e w9 ⟨rfl, m1, hw9⟩
         have e9 : w9.cell? ⟨b, off + k, none⟩ = some (.slice Bq m cq) := by rw [hw9]; exact hcell
         have z9 : b < w9.heap.size := by rw [hw9]; exact hz
         replace hw9 := Lib.hid hw9
         clear BF _t4)
      | (go_at_call 219
         (
           (refine (BF2.out _ ⟨_, hw9.out⟩).mono ?_)
           rintro e w8 ⟨rfl, m2, hw8⟩
           have HBW : Hid (Below w.heap.size w w8) := by rw [hw8]; exact below_drewN' (HBX.out _ ⟨_, hw9.out⟩) _
           clear hw8; have HBA : Hid (Below w.heap.size w (World.alloc w8 (.cells #[] 26))) := HBW.out.alloc HBW.out.size _
           have HM : Hid ((World.alloc w8 (.cells #[] 26)).ownsRow w.heap.size 26 1 (.slice (some ⟨(World.heap w8).size, 0, none⟩) 0 0) 0 []) := by
             obtain ⟨cs', h1, h2, _⟩ := OP.made (S := S) (cs := []) (e := 26) (base := w.heap.size) w8 HBW.out.size HSS.out (PVs.nil_ _ _) (by decide)
             have : cs' = [] := List.eq_nil_of_length_eq_zero h2.1
             subst this; exact h1
           have HQ1 := Lib.hid True.intro
           have HL1 : Hid ((cs.take k).length = k * 1) := by unfold Hid; rw [List.length_take, HLC.out] <;> omega
           have HK1 : Hid (k = (ps.take k).length) := by unfold Hid; rw [List.length_take, HLN.out] <;> omega
           have HE1 : Hid (∀ u ∈ cs.take k, u.oneCell' = true) := fun u hu => HSC.out u (List.mem_of_mem_take hu)
           have HN1 : Hid (∀ j u, (cs.take k)[j]? = some u → (World.alloc w8 (.cells #[] 26)).cell? ((⟨b, off, none⟩ : Addr).add j) = some u) := HCZ.out.news HBA.out 0 k
           have HL3 : Hid ((cs.drop k).length = (n - k) * 1) := by unfold Hid; rw [List.length_drop, HLC.out] <;> omega
           have HK3 : Hid ((n - k) = (ps.drop k).length) := by unfold Hid; rw [List.length_drop, HLN.out] <;> omega
           have HE3 : Hid (∀ u ∈ cs.drop k, u.oneCell' = true) := fun u hu => HSC.out u (List.mem_of_mem_drop hu)
           ))
       | (at_builtin
          have _t1 := HQ1
          (refine wpList_append_own_at _ rfl _ _ 48 rfl w.heap.size 26 i0 (.slice none 0 0) 1 24 Tryz.underlying48 hi hz0 hz1 hz2 rfl (by decide) _ 0 [] rfl HM.out ⟨b, off, none⟩ k c (cs.take k) rfl HL1.out HN1.out HE1.out (by unfold maxLen; omega) (by omega) HBA.out.size ?_)
          intro v1 w1 hown hgrow _ hat
          have HO1 : OP S w1 w.heap.size 26 v1 ([] ++ ps.take k) := OP.grew (cs := []) (ps := []) (v := .slice (some ⟨(World.heap w8).size, 0, none⟩) 0 0) (PVs.nil_ _ _) ((HCS.out.take k).into HBA.out (fun q hq => by have := World.ownsRow.lt HM.out q hq; exact this.1)) hown HK1.out hgrow hat HSS.out
          rw [List.nil_append] at HO1
          have HB1 : Hid (Below w.heap.size w w1) := HBA.out.grown hgrow HBA.out.size (fun q hq => (World.ownsRow.lt HM.out q hq).1)
          obtain ⟨cs1, hrow1, hpv1, hv1⟩ := HO1; have HROW1 := Lib.hid (row_alloc hrow1 (.cells #[.slice B m cp] 26)); have HPV1 := Lib.hid (hpv1.frm ((Frm.refl (wth S v1) _).alloc (.cells #[.slice B m cp] 26)))
          have HPE1 : Hid (PVs (wth S v1) (w1.alloc (.cells #[.slice B m cp] 26)) [.slice B m cp] [p]) := (PVs.one HPP.out).into (HB1.out.alloc HB1.out.size _) (fun q hq => (World.ownsRow.lt hrow1 q hq).1)
          clear hown hgrow hat hrow1 hpv1 hv1 HQ1 _t1)
       | (at_builtin
          have _t2 := HROW1
          (
            (refine wpList_append_own_at _ rfl _ _ 48 rfl w.heap.size 26 i0 (.slice none 0 0) 1 24 Tryz.underlying48 hi hz0 hz1 hz2 rfl (by decide) _ _ _ rfl HROW1.out ⟨w1.heap.size, 0, none⟩ 1 1 [.slice B m cp] rfl rfl (one_new _ _ _) (slice_cell _ _ _) (by have := HK1.out; unfold maxLen; omega) (by have := HK1.out; omega) (by have h1 := HB1.out.size; simp; omega) ?_)
            intro v2 w2 hown hgrow _ hat
            have HO2 : OP S w2 w.heap.size 26 v2 (ps.take k ++ [p]) := OP.grew HPV1.out HPE1.out hown rfl hgrow hat HSS.out
            have HB2 : Hid (Below w.heap.size w w2) := (HB1.out.alloc HB1.out.size _).grown hgrow (by have h1 := HB1.out.size; simp; omega) (fun q hq => (World.ownsRow.lt HROW1.out q hq).1)
            obtain ⟨cs2, hrow2, hpv2, hv2⟩ := HO2; have HROW2 := Lib.hid hrow2; have HPV2 := Lib.hid hpv2
            have HN3 : Hid (∀ j u, (cs.drop k)[j]? = some u → w2.cell? ((⟨b, (off + k), none⟩ : Addr).add j) = some u) := by
              have h := HCZ.out.news HB2.out k cs.length
              rw [List.take_of_length_le (by rw [List.length_drop]; omega)] at h
              first | exact h | (intro j u hu; rw [List.drop_of_length_le (by rw [HLC.out]; omega)] at hu; simp at hu)
            have HPE2 : Hid (PVs (wth S v2) w2 (cs.drop k) (ps.drop k)) := (HCS.out.drop k).into HB2.out (fun q hq => (World.ownsRow.lt hrow2 q hq).1)
            have HK2 : Hid ((ps.take k ++ [p]).length ≤ 1000001) := by unfold Hid; rw [List.length_append]; have := HK1.out; simp only [List.length_singleton]; omega
            clear hown hgrow hat hrow2 hpv2 hv2 HROW1 _t2))
       | (at_builtin
          have _t3 := HROW2
          (refine wpList_append_own_at _ rfl _ _ 48 rfl w.heap.size 26 i0 (.slice none 0 0) 1 24 Tryz.underlying48 hi hz0 hz1 hz2 rfl (by decide) _ _ _ rfl HROW2.out ⟨b, (off + k), none⟩ (n - k) (c - k) (cs.drop k) rfl HL3.out HN3.out HE3.out (by have := HK2.out; unfold maxLen; omega) (by have := HK2.out; omega) HB2.out.size ?_)
          intro v3 w3 hown hgrow _ hat
          have HO3 : Hid (OP S w3 w.heap.size 26 v3 ((ps.take k ++ [p]) ++ ps.drop k)) := OP.grew HPV2.out HPE2.out hown HK3.out hgrow hat HSS.out
          have HB3 : Hid (Below w.heap.size w w3) := HB2.out.grown hgrow HB2.out.size (fun q hq => (World.ownsRow.lt HROW2.out q hq).1)
          clear hown hgrow hat HROW2 _t3)
      )
     go_ret
     rw[HPUT.out]
     exact HO3.out.ret (by simp) HB3.out
   ·rw[hb1]at BF
    replace BF:=Lib.hid BF;have HB1:=Lib.hid hb1;clear hb1 BF2
    go_wp2_with (go_at_call 219;(refine BF.out.mono ?_);rintro e w9 ⟨rfl,m1,rfl⟩)
    go_roundw
    case rel=>exact⟨k+1,by omega,by go_num,fun j hj=>by
     by_cases e:j=k
     ·rw[e];exact HB1.out
     ·exact hbf.out j (by omega),drw_ex hw.out⟩
    case measure=>(simp[intOf])<;>omega
  ·have hkn:k=n:=by omega
   have HBW:Hid (Below w.heap.size w wr):=by obtain⟨m,hm⟩:=hw.out;rw[hm];exact below_drewN' (Below.refl _ _) _
   have HPUT:Hid (putL ps p=(ps.take n++[p])++ps.drop n):=putL_new (by have:=HLN.out;omega) (fun j hj=>hbf.out j (by omega)) (fun h=>by have:=HLN.out;omega) (fun h=>by have:=HLN.out;omega)
   subst hkn
   by_cases hck:c=k
   ·subst hck
    have HBA:Hid (Below w.heap.size w (World.alloc wr (.cells #[] 26))):=HBW.out.alloc HBW.out.size _
    have HM:Hid ((World.alloc wr (.cells #[] 26)).ownsRow w.heap.size 26 1 (.slice (some ⟨(World.heap wr).size,0,none⟩) 0 0) 0 []):=by
     obtain⟨cs',h1,h2,_⟩:=OP.made (S:=S) (cs:=[]) (e:=26) (base:=w.heap.size) wr HBW.out.size HSS.out (PVs.nil_ _ _) (by decide)
     have:cs'=[]:=List.eq_nil_of_length_eq_zero h2.1
     subst this;exact h1
    have HQ1:=Lib.hid True.intro
    have HL1:Hid ((cs.take c).length=c*1):=by unfold Hid;rw[List.length_take,HLC.out]<;>omega
    have HK1:Hid (c=(ps.take c).length):=by unfold Hid;rw[List.length_take,HLN.out]<;>omega
    have HE1:Hid (∀u∈cs.take c,u.oneCell'=true):=fun u hu=>HSC.out u (List.mem_of_mem_take hu)
    have HN1:Hid (∀j u,(cs.take c)[j]? = some u→(World.alloc wr (.cells #[] 26)).cell? ((⟨b,off,none⟩:Addr).add j)=some u):=HCZ.out.news HBA.out 0 c
    have HL3:Hid ((cs.drop c).length=0*1):=by unfold Hid;rw[List.length_drop,HLC.out]<;>omega
    have HK3:Hid (0=(ps.drop c).length):=by unfold Hid;rw[List.length_drop,HLN.out]<;>omega
    have HE3:Hid (∀u∈cs.drop c,u.oneCell'=true):=fun u hu=>HSC.out u (List.mem_of_mem_drop hu)
    go_wp2_with (first
     | (at_builtin
        have _t1 := HQ1
        (refine wpList_append_own_at _ rfl _ _ 48 rfl w.heap.size 26 i0 (.slice none 0 0) 1 24 Tryz.underlying48 hi hz0 hz1 hz2 rfl (by decide) _ 0 [] rfl HM.out ⟨b, off, none⟩ c c (cs.take c) rfl HL1.out HN1.out HE1.out (by unfold maxLen; omega) (by omega) HBA.out.size ?_)
        intro v1 w1 hown hgrow _ hat
        have HO1 : OP S w1 w.heap.size 26 v1 ([] ++ ps.take c) := OP.grew (cs := []) (ps := []) (v := .slice (some ⟨(World.heap wr).size, 0, none⟩) 0 0) (PVs.nil_ _ _) ((HCS.out.take c).into HBA.out (fun q hq => by have := World.ownsRow.lt HM.out q hq; exact this.1)) hown HK1.out hgrow hat HSS.out
        rw [List.nil_append] at HO1
        have HB1 : Hid (Below w.heap.size w w1) := HBA.out.grown hgrow HBA.out.size (fun q hq => (World.ownsRow.lt HM.out q hq).1)
        obtain ⟨cs1, hrow1, hpv1, hv1⟩ := HO1; have HROW1 := Lib.hid (row_alloc hrow1 (.cells #[.slice B m cp] 26)); have HPV1 := Lib.hid (hpv1.frm ((Frm.refl (wth S v1) _).alloc (.cells #[.slice B m cp] 26)))
        have HPE1 : Hid (PVs (wth S v1) (w1.alloc (.cells #[.slice B m cp] 26)) [.slice B m cp] [p]) := (PVs.one HPP.out).into (HB1.out.alloc HB1.out.size _) (fun q hq => (World.ownsRow.lt hrow1 q hq).1)
        clear hown hgrow hat hrow1 hpv1 hv1 HQ1 _t1)
     | (at_builtin
        have _t2 := HROW1
        (
          (refine wpList_append_own_at _ rfl _ _ 48 rfl w.heap.size 26 i0 (.slice none 0 0) 1 24 Tryz.underlying48 hi hz0 hz1 hz2 rfl (by decide) _ _ _ rfl HROW1.out ⟨w1.heap.size, 0, none⟩ 1 1 [.slice B m cp] rfl rfl (one_new _ _ _) (slice_cell _ _ _) (by have := HK1.out; unfold maxLen; omega) (by have := HK1.out; omega) (by have h1 := HB1.out.size; simp; omega) ?_)
          intro v2 w2 hown hgrow _ hat
          have HO2 : OP S w2 w.heap.size 26 v2 (ps.take c ++ [p]) := OP.grew HPV1.out HPE1.out hown rfl hgrow hat HSS.out
          have HB2 : Hid (Below w.heap.size w w2) := (HB1.out.alloc HB1.out.size _).grown hgrow (by have h1 := HB1.out.size; simp; omega) (fun q hq => (World.ownsRow.lt HROW1.out q hq).1)
          obtain ⟨cs2, hrow2, hpv2, hv2⟩ := HO2; have HROW2 := Lib.hid hrow2; have HPV2 := Lib.hid hpv2
          have HN3 : Hid (∀ j u, (cs.drop c)[j]? = some u → w2.cell? ((⟨b, off, none⟩ : Addr).add j) = some u) := by
            have h := HCZ.out.news HB2.out c cs.length
            rw [List.take_of_length_le (by rw [List.length_drop]; omega)] at h
            first | exact h | (intro j u hu; rw [List.drop_of_length_le (by rw [HLC.out]; omega)] at hu; simp at hu)
          have HPE2 : Hid (PVs (wth S v2) w2 (cs.drop c) (ps.drop c)) := (HCS.out.drop c).into HB2.out (fun q hq => (World.ownsRow.lt hrow2 q hq).1)
          have HK2 : Hid ((ps.take c ++ [p]).length ≤ 1000001) := by unfold Hid; rw [List.length_append]; have := HK1.out; simp only [List.length_singleton]; omega
          clear hown hgrow hat hrow2 hpv2 hv2 HROW1 _t2))
     | (at_builtin
        have _t3 := HROW2
        (refine wpList_append_own_at _ rfl _ _ 48 rfl w.heap.size 26 i0 (.slice none 0 0) 1 24 Tryz.underlying48 hi hz0 hz1 hz2 rfl (by decide) _ _ _ rfl HROW2.out ⟨b, off, none⟩ 0 0 (cs.drop c) rfl HL3.out HN3.out HE3.out (by have := HK2.out; unfold maxLen; omega) (by have := HK2.out; omega) HB2.out.size ?_)
        intro v3 w3 hown hgrow _ hat
        have HO3 : Hid (OP S w3 w.heap.size 26 v3 ((ps.take c ++ [p]) ++ ps.drop c)) := OP.grew HPV2.out HPE2.out hown HK3.out hgrow hat HSS.out
        have HB3 : Hid (Below w.heap.size w w3) := HB2.out.grown hgrow HB2.out.size (fun q hq => (World.ownsRow.lt HROW2.out q hq).1)
        clear hown hgrow hat HROW2 _t3)
     )
    go_ret
    rw[HPUT.out]
    exact HO3.out.ret (by simp) HB3.out
   ·
    have HBA:Hid (Below w.heap.size w (World.alloc wr (.cells #[] 26))):=HBW.out.alloc HBW.out.size _
    have HM:Hid ((World.alloc wr (.cells #[] 26)).ownsRow w.heap.size 26 1 (.slice (some ⟨(World.heap wr).size,0,none⟩) 0 0) 0 []):=by
     obtain⟨cs',h1,h2,_⟩:=OP.made (S:=S) (cs:=[]) (e:=26) (base:=w.heap.size) wr HBW.out.size HSS.out (PVs.nil_ _ _) (by decide)
     have:cs'=[]:=List.eq_nil_of_length_eq_zero h2.1
     subst this;exact h1
    have HQ1:=Lib.hid True.intro
    have HL1:Hid ((cs.take k).length=k*1):=by unfold Hid;rw[List.length_take,HLC.out]<;>omega
    have HK1:Hid (k=(ps.take k).length):=by unfold Hid;rw[List.length_take,HLN.out]<;>omega
    have HE1:Hid (∀u∈cs.take k,u.oneCell'=true):=fun u hu=>HSC.out u (List.mem_of_mem_take hu)
    have HN1:Hid (∀j u,(cs.take k)[j]? = some u→(World.alloc wr (.cells #[] 26)).cell? ((⟨b,off,none⟩:Addr).add j)=some u):=HCZ.out.news HBA.out 0 k
    have HL3:Hid ((cs.drop k).length=0*1):=by unfold Hid;rw[List.length_drop,HLC.out]<;>omega
    have HK3:Hid (0=(ps.drop k).length):=by unfold Hid;rw[List.length_drop,HLN.out]<;>omega
    have HE3:Hid (∀u∈cs.drop k,u.oneCell'=true):=fun u hu=>HSC.out u (List.mem_of_mem_drop hu)
    go_wp2_with (first
     | (at_builtin
        have _t1 := HQ1
        (refine wpList_append_own_at _ rfl _ _ 48 rfl w.heap.size 26 i0 (.slice none 0 0) 1 24 Tryz.underlying48 hi hz0 hz1 hz2 rfl (by decide) _ 0 [] rfl HM.out ⟨b, off, none⟩ k c (cs.take k) rfl HL1.out HN1.out HE1.out (by unfold maxLen; omega) (by omega) HBA.out.size ?_)
        intro v1 w1 hown hgrow _ hat
        have HO1 : OP S w1 w.heap.size 26 v1 ([] ++ ps.take k) := OP.grew (cs := []) (ps := []) (v := .slice (some ⟨(World.heap wr).size, 0, none⟩) 0 0) (PVs.nil_ _ _) ((HCS.out.take k).into HBA.out (fun q hq => by have := World.ownsRow.lt HM.out q hq; exact this.1)) hown HK1.out hgrow hat HSS.out
        rw [List.nil_append] at HO1
        have HB1 : Hid (Below w.heap.size w w1) := HBA.out.grown hgrow HBA.out.size (fun q hq => (World.ownsRow.lt HM.out q hq).1)
        obtain ⟨cs1, hrow1, hpv1, hv1⟩ := HO1; have HROW1 := Lib.hid (row_alloc hrow1 (.cells #[.slice B m cp] 26)); have HPV1 := Lib.hid (hpv1.frm ((Frm.refl (wth S v1) _).alloc (.cells #[.slice B m cp] 26)))
        have HPE1 : Hid (PVs (wth S v1) (w1.alloc (.cells #[.slice B m cp] 26)) [.slice B m cp] [p]) := (PVs.one HPP.out).into (HB1.out.alloc HB1.out.size _) (fun q hq => (World.ownsRow.lt hrow1 q hq).1)
        clear hown hgrow hat hrow1 hpv1 hv1 HQ1 _t1)
     | (at_builtin
        have _t2 := HROW1
        (
          (refine wpList_append_own_at _ rfl _ _ 48 rfl w.heap.size 26 i0 (.slice none 0 0) 1 24 Tryz.underlying48 hi hz0 hz1 hz2 rfl (by decide) _ _ _ rfl HROW1.out ⟨w1.heap.size, 0, none⟩ 1 1 [.slice B m cp] rfl rfl (one_new _ _ _) (slice_cell _ _ _) (by have := HK1.out; unfold maxLen; omega) (by have := HK1.out; omega) (by have h1 := HB1.out.size; simp; omega) ?_)
          intro v2 w2 hown hgrow _ hat
          have HO2 : OP S w2 w.heap.size 26 v2 (ps.take k ++ [p]) := OP.grew HPV1.out HPE1.out hown rfl hgrow hat HSS.out
          have HB2 : Hid (Below w.heap.size w w2) := (HB1.out.alloc HB1.out.size _).grown hgrow (by have h1 := HB1.out.size; simp; omega) (fun q hq => (World.ownsRow.lt HROW1.out q hq).1)
          obtain ⟨cs2, hrow2, hpv2, hv2⟩ := HO2; have HROW2 := Lib.hid hrow2; have HPV2 := Lib.hid hpv2
          have HN3 : Hid (∀ j u, (cs.drop k)[j]? = some u → w2.cell? ((⟨b, (off + k), none⟩ : Addr).add j) = some u) := by
            have h := HCZ.out.news HB2.out k cs.length
            rw [List.take_of_length_le (by rw [List.length_drop]; omega)] at h
            first | exact h | (intro j u hu; rw [List.drop_of_length_le (by rw [HLC.out]; omega)] at hu; simp at hu)
          have HPE2 : Hid (PVs (wth S v2) w2 (cs.drop k) (ps.drop k)) := (HCS.out.drop k).into HB2.out (fun q hq => (World.ownsRow.lt hrow2 q hq).1)
          have HK2 : Hid ((ps.take k ++ [p]).length ≤ 1000001) := by unfold Hid; rw [List.length_append]; have := HK1.out; simp only [List.length_singleton]; omega
          clear hown hgrow hat hrow2 hpv2 hv2 HROW1 _t2))
     | (at_builtin
        have _t3 := HROW2
        (refine wpList_append_own_at _ rfl _ _ 48 rfl w.heap.size 26 i0 (.slice none 0 0) 1 24 Tryz.underlying48 hi hz0 hz1 hz2 rfl (by decide) _ _ _ rfl HROW2.out ⟨b, (off + k), none⟩ 0 (c - k) (cs.drop k) rfl HL3.out HN3.out HE3.out (by have := HK2.out; unfold maxLen; omega) (by have := HK2.out; omega) HB2.out.size ?_)
        intro v3 w3 hown hgrow _ hat
        have HO3 : Hid (OP S w3 w.heap.size 26 v3 ((ps.take k ++ [p]) ++ ps.drop k)) := OP.grew HPV2.out HPE2.out hown HK3.out hgrow hat HSS.out
        have HB3 : Hid (Below w.heap.size w w3) := HB2.out.grown hgrow HB2.out.size (fun q hq => (World.ownsRow.lt HROW2.out q hq).1)
        clear hown hgrow hat HROW2 _t3)
     )
    go_ret
    rw[HPUT.out]
    exact HO3.out.ret (by simp) HB3.out
end Go.Proofs.YtkaiilmgemaljaaGreat

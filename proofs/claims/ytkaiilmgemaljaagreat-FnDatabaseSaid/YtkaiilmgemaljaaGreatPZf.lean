/- Joined texts of one proof: N22, N24, N25, N28. Each part tells what it shows. There are no conditions. -/
import Derived.Test.YtkaiilmgemaljaaGreatPN21
import Derived.Test.YtkaiilmgemaljaaGreatPZe
import Derived.Test.YtkaiilmgemaljaaGreatPZp
import Derived.Lib.SliceRun
set_option linter.unusedVariables false
set_option linter.unusedSimpArgs false
/- Contract of the reference's walk over dice. There are no conditions. -/
namespace Go.Proofs.YtkaiilmgemaljaaGreat
open Go.RowKit Ps
theorem putL_len:∀(l:List (List Int)) (p:List Int),(putL l p).length≤l.length+1
 | [],p=>by simp[putL]
 | q :: r, p => by
   have ih := putL_len r p; rw [putL_cons]
   split
   · simp; omega
   · split <;> simp
theorem putAll_len (acc l:List (List Int)):(putAll acc l).length≤acc.length+l.length:=by
 induction l using snoc_ind with
 | nil=>rw[putAll_nil];simp
 | snoc l x ih =>
   rw [putAll_snoc]; have := putL_len (putAll acc l) x
   simp only [List.length_append, List.length_singleton]; omega
theorem sortU_len (l:List (List Int)):(sortU l).length≤l.length:=by have:=putAll_len [] l;simpa[sortU]using this
theorem flatMap_len {α β:Type} (f:α→List β) (B:Nat):∀(l:List α),(∀x∈l,(f x).length≤B)→(l.flatMap f).length≤l.length*B
 | [],_=>by simp
 | x :: r, h => by
   have h1 := h x (by simp)
   have h2 := flatMap_len f B r fun y hy => h y (by simp [hy])
   simp only [List.flatMap_cons, List.length_append, List.length_cons, Nat.add_mul, Nat.one_mul]; omega
theorem stepsL_lens {p q:List Int} {d:Nat} (h:q∈stepsL p d):q.length=p.length:=by
 obtain⟨i,_,_,rfl⟩:=mem_stepsL.1 h
 exact stepTo_length p i d
theorem reach_len:∀(ds:List Nat) (p:List Int),p.length≤24→(reach ds p).length≤24 ^ ds.length
 | [],p,_=>by simp[reach_nil]
 | d :: ds, p, hp => by
   rw [reach_cons]
   have hpos : 1 ≤ 24 ^ (d :: ds).length := Nat.one_le_pow _ _ (by omega)
   split
   · simpa using hpos
   · have h1 := flatMap_len (reach ds) (24 ^ ds.length) (stepsL p d) fun q hq => reach_len ds q (by rw [stepsL_lens hq]; exact hp)
     have h2 : (stepsL p d).length ≤ 24 := by have := stepsN_len (p := p) (d := d) p.length; exact Nat.le_trans this hp
     have h3 := Nat.mul_le_mul_right (24 ^ ds.length) h2; rw [List.length_cons, Nat.pow_succ, Nat.mul_comm (24 ^ ds.length) 24]
     omega
theorem reach_len4 {ds:List Nat} {p:List Int} (hd:ds.length≤4) (hp:p.length≤24):(reach ds p).length≤331776:=by
 have h1:=reach_len ds p hp
 have h2:24 ^ ds.length≤24 ^ 4:=Nat.pow_le_pow_right (by omega) hd
 have h3:(24:Nat) ^ 4=331776:=by decide
 omega
theorem walkB_len {d:Nat} {ds:List Nat} {p:List Int} (i:Nat) (hd:(d::ds).length≤4) (hp:p.length≤24):(walkB d ds p i).length≤331776:=by
 unfold walkB
 refine Nat.le_trans (sortU_len _) ?_
 have h1:=flatMap_len (reach ds) (24 ^ ds.length) ((stepsL p d).take i) fun q hq=>reach_len ds q (by rw[stepsL_lens (List.mem_of_mem_take hq)];exact hp)
 have h2:((stepsL p d).take i).length≤24:=by
  have h3:=stepsN_len (p:=p) (d:=d) p.length
  have h4:((stepsL p d).take i).length≤(stepsL p d).length:=by rw[List.length_take];omega
  exact Nat.le_trans h4 (Nat.le_trans h3 hp)
 have h3:24 ^ ds.length≤24 ^ 3:=Nat.pow_le_pow_right (by omega) (by simpa using hd)
 have h5:=Nat.mul_le_mul h2 h3
 have h4:(24:Nat)*24 ^ 3=331776:=by decide
 omega
def RetW (S:Nat→Prop) (w:World) (ps:List (List Int)) (N:Nat) (e:Ending) (w':World):Prop:=∃b off m c,e = .returned (.tuple #[.slice (some ⟨b,off,none⟩) m c,.int .i64 N])∧PL S w' (some ⟨b,off,none⟩) m ps∧m≤c∧Below w.heap.size w w'
def WalkC (ds:List Nat):Prop:=∀(S:Nat→Prop) (p:List Int) (N:Nat) (A:Option Addr) (n c:Nat) (D:Option Addr) (dc:Nat) (w:World),SL w A n p→n≤c→PosP n 15 p→n≤24→0<n→
 SL w D ds.length (ds.map (Nat.cast:Nat→Int))→ds.length≤dc→Uni ds p N→N≤4→(∀k,w.heap.size≤k→¬S k)→
 Calls Tryz.prog 173 #[.slice A n c,.slice D ds.length dc] w (RetW S w (sortU (reach ds p)) N)
theorem OP.one {S:Nat→Prop} {w w1:World} {v:Value} {p:List Int} (hb:Below w.heap.size w w1) (hS:∀k,w.heap.size≤k→¬S k) (hp:PV S w1 v p):
  PL S (w1.alloc (.cells #[v] 26)) (some ⟨w1.heap.size,0,none⟩) 1 [p]:=by
 obtain⟨A,c,hv,hpl,_⟩:=(OP.made (S:=S) (e:=26) (base:=w.heap.size) w1 hb.size hS (PVs.one hp) (by simp[maxLen])).read
 injection hv with h1 h2 h3
 rw[h1];exact hpl
set_option maxRecDepth 100000 in
set_option maxHeartbeats 4000000 in
theorem l10Walk_nil:WalkC []:=by
 intro S p N A n c D dc w hx hc hp hn hn0 hD hdc hu hN4 hS
 obtain⟨i1,hj,hy0,hy1,hy2⟩:=info_parts Tryz.infoI;have hN:N=0:=hu;subst hN;obtain⟨b,off,rfl,hblt,hcl⟩:=hx.2 hn0;have HL:=Lib.hid hx.1
 have HC1:Hid ((p.map (Value.int .i64)).length=n*1):=by unfold Hid;rw[List.length_map,HL.out,Nat.mul_one]
 have HSS:=Lib.hid hS
 have HCN:Hid (∀j u,(p.map (Value.int .i64))[j]? = some u→(w.alloc (.cells #[] 2)).cell? ((⟨b,off,none⟩:Addr).add j)=some u):=by
  intro j u hu
  have hj:j<p.length:=by have:=(List.getElem?_eq_some_iff.1 hu).1;simpa using this
  have h1:w.cell? ⟨b,off+j,none⟩=some u:=by rw[hcl j (by have:=HL.out;omega),← getD_map_int p j hj,hu]
  rw[Addr.add_lit]
  exact (World.cell?_alloc_lt w _ _ (World.block_lt_of_cell? w _ h1)).trans h1
 have HCO:Hid ((w.alloc (.cells #[] 2)).ownsRow w.heap.size 2 1 (.slice (some ⟨w.heap.size,0,none⟩) 0 0) 0 []):=World.ownsRow_made w #[] 0 (Nat.le_refl _) (by decide) rfl
 clear hcl hx hS hD hu
 go_enter Tryz.func173,Tryz.ntmps173
 go_wp2_with (first
 | (at_builtin
    have _t1 := HCO
    (refine wpList_append_own _ rfl _ _ 26 rfl w.heap.size 2 i1 (.int .i64 0) 1 8 Tryz.underlying26 hj hy0 hy1 hy2 rfl (by decide) _ 0 [] rfl HCO.out ⟨b, off, none⟩ n c (p.map (Value.int .i64)) rfl HC1.out HCN.out (ints_oneCell _ _) (by unfold maxLen; omega) (by omega) (by simp) ?_)
    intro v1 w1 hcown hcgrow _
    obtain ⟨g, c1, hv1, ho, hg1, hg2, hcl, hfz, hb⟩ := own_copy hcown hcgrow HL.out (by omega)
    subst hv1; have HO := Lib.hid ho; have HB := Lib.hid hb
    clear hcown hcgrow hcl hfz ho hb HCO _t1))
 go_ret2
 rw[reach_nil,sortU_one]
 exact⟨w1.heap.size,0,1,1,rfl,OP.one HB.out HSS.out (PV.own HO.out HSS.out),by omega,HB.out.alloc HB.out.size _⟩
theorem walk_pos {d:Nat} {ds:List Nat} {p q:List Int} {n i k:Nat} (hd:∀e∈d::ds,1≤e) (hp:PosP n 15 p) (hq:PosP n 15 q):
  ∀x∈putAll (walkB d ds p i) ((sortU (reach ds q)).take k),PosP n 15 x:=by
 have hds:∀e∈ds,1≤e:=fun e he=>hd e (List.mem_cons_of_mem _ he)
 have h1:∀x∈((stepsL p d).take i).flatMap (reach ds),PosP n 15 x:=fun x hx=>by
  obtain⟨r,hr,hxr⟩:=List.mem_flatMap.1 hx
  exact (reach_pos hds (step_pos (hd d (by simp)) hp (List.mem_of_mem_take hr)).1 x hxr).1
 have h2:∀x∈reach ds q,PosP n 15 x:=fun x hx=>(reach_pos hds hq x hx).1
 have l1:Lens n (((stepsL p d).take i).flatMap (reach ds)):=fun x hx=>(h1 x hx).1
 have l2:Lens n (reach ds q):=fun x hx=>(h2 x hx).1
 obtain⟨a1,a2,a3⟩:=sortU_spec l1;obtain⟨b1,b2,b3⟩:=sortU_spec l2
 intro x hx
 have:=((putAll_spec (l:=(sortU (reach ds q)).take k) (acc:=walkB d ds p i) a1 (fun y hy=>b1 y (List.mem_of_mem_take hy)) a2).2.2 x).1 hx
 rcases this with h|h
 ·exact h1 x ((a3 x).1 h)
 ·exact h2 x ((b3 x).1 (List.mem_of_mem_take h))
set_option maxRecDepth 100000 in
set_option maxHeartbeats 4000000 in
theorem l10Walk_cons (d:Nat) (ds:List Nat) (hd1:1≤d) (hd6:d≤6) (hds:∀e∈ds,1≤e) (hl3:ds.length≤3) (IH:WalkC ds):WalkC (d::ds):=by
 intro S p N A n c D dc w hx hc hp hn hn0 hD hdc hu hN4 hS
 obtain⟨i1,hj,hy0,hy1,hy2⟩:=info_parts Tryz.infoI;obtain⟨b,off,rfl,hblt,hcl⟩:=hx.2 hn0;have HL:=Lib.hid hx.1
 have HC1:Hid ((p.map (Value.int .i64)).length=n*1):=by unfold Hid;rw[List.length_map,HL.out,Nat.mul_one]
 have HSS:=Lib.hid hS;have HX:=Lib.hid hx;have HD:=Lib.hid hD;have HU:=Lib.hid hu;have HP:=Lib.hid hp;have HP0:=Lib.hid hp.2.1;have HP5:=Lib.hid hp.2.2;have HIH:=Lib.hid IH;have HDS:=Lib.hid hds;have HDC:=Lib.hid hdc;have hdl:(ds.length+1:Nat)=(d::ds).length:=rfl;have hdc':ds.length+1≤dc:=hdc
 have HCN:Hid (∀j u,(p.map (Value.int .i64))[j]? = some u→(w.alloc (.cells #[] 2)).cell? ((⟨b,off,none⟩:Addr).add j)=some u):=by
  intro j u hu
  have hj:j<p.length:=by have:=(List.getElem?_eq_some_iff.1 hu).1;simpa using this
  have h1:w.cell? ⟨b,off+j,none⟩=some u:=by rw[hcl j (by have:=HL.out;omega),← getD_map_int p j hj,hu]
  rw[Addr.add_lit]
  exact (World.cell?_alloc_lt w _ _ (World.block_lt_of_cell? w _ h1)).trans h1
 have HCO:Hid ((w.alloc (.cells #[] 2)).ownsRow w.heap.size 2 1 (.slice (some ⟨w.heap.size,0,none⟩) 0 0) 0 []):=World.ownsRow_made w #[] 0 (Nat.le_refl _) (by decide) rfl
 clear hcl hx hS hD hu hp IH hds hdl hdc
 rw[show (d::ds).length=ds.length+1 from rfl]
 go_enter Tryz.func173,Tryz.ntmps173
 go_wp2_with (first
 | (at_builtin
    have _t1 := HCO
    (refine wpList_append_own _ rfl _ _ 26 rfl w.heap.size 2 i1 (.int .i64 0) 1 8 Tryz.underlying26 hj hy0 hy1 hy2 rfl (by decide) _ 0 [] rfl HCO.out ⟨b, off, none⟩ n c (p.map (Value.int .i64)) rfl HC1.out HCN.out (ints_oneCell _ _) (by unfold maxLen; omega) (by omega) (by simp) ?_)
    intro v1 w1 hcown hcgrow _
    obtain ⟨g, c1, hv1, ho, hg1, hg2, hcl, hfz, hb⟩ := own_copy hcown hcgrow HL.out (by omega)
    subst hv1; have HO := Lib.hid ho; have HB := Lib.hid hb; have HB1 : Hid (Below w.heap.size w (w1.alloc (.cells #[.slice (some ⟨g, 0, none⟩) n c1] 26))) := hb.alloc hb.size _; have HP1 : Hid (PL S (w1.alloc (.cells #[.slice (some ⟨g, 0, none⟩) n c1] 26)) (some ⟨w1.heap.size, 0, none⟩) 1 [p]) := OP.one hb HSS.out (PV.own ho HSS.out)
    obtain ⟨bD, oD, hA, hDlt, hDc⟩ := HD.out.2 (by simp)
    subst hA
    have hd0 : (w1.alloc (.cells #[.slice (some ⟨g, 0, none⟩) n c1] 26)).cell? ⟨bD, oD, none⟩ = some (.int .i64 d) := by
      have h1 := hDc 0 (by simp)
      exact keep_cell (by simpa using h1) HB1.out
    have hz0 : bD < (w1.alloc (.cells #[.slice (some ⟨g, 0, none⟩) n c1] 26)).heap.size := Nat.lt_of_lt_of_le hDlt HB1.out.size
    clear hcown hcgrow hcl hfz ho hb HCO _t1 hDc hDlt)
 | (go_at_call 218
    (refine (l10Steps_any S (some ⟨b, off, none⟩) n c d p _ (by exact HX.out.below HB1.out) hc HP0.out HP5.out hn hn0 hd1 hd6 (fun q hq => HSS.out q (Nat.le_trans HB1.out.size hq))).mono ?_)
    rintro e w2 ⟨v2, rfl, ho2, hb2⟩
    have HP2 : Hid (PL S w2 (some ⟨w1.heap.size, 0, none⟩) 1 [p]) := HP1.out.below hb2; have HB2 : Hid (Below w.heap.size w w2) := HB1.out.trans (hb2.mono HB1.out.size); obtain ⟨A2, c2, hv2, hpl2, hc2⟩ := ho2.read; subst hv2; have HNX := Lib.hid hpl2
    clear ho2 hpl2 hb2 HP1))
 go_loopw [6,7,9] (fun vb vm vi wr=>∃i:Nat,i≤(stepsL p d).length∧vi = .int .i64 i∧∃(b6 o6 n6 c6:Nat) (L:List (List Int)) (M:Nat),vb = .slice (some ⟨b6,o6,none⟩) n6 c6∧vm = .int .i64 M∧n6≤c6∧Hid (PL S wr (some ⟨b6,o6,none⟩) n6 L)∧
   Hid ((i=0∧L=[p]∧M=0)∨(0<i∧L=walkB d ds p i∧M=N))∧Hid (Below w.heap.size w wr)∧Hid (PL S wr A2 (stepsL p d).length (stepsL p d))) (fun _ _ vi _=>(stepsL p d).length-(intOf vi).toNat)
 case atStart=>exact⟨0,Nat.zero_le _,rfl,_,_,_,_,[p],0,rfl,rfl,by omega,HP2.out,.inl ⟨rfl,rfl,rfl⟩,HB2.out,HNX.out⟩
 case round=>
  obtain⟨i,hi,rfl,b6,o6,n6,c6,L,M,rfl,rfl,hnc,HPLb,hst,HBr,HNr⟩:=hrel
  by_cases hlt:i<(stepsL p d).length
  ·have hp0:p.sum≠0:=fun h0=>by rw[steps_none HP0.out h0]at hlt;simp at hlt
   obtain⟨m,hNm,hum⟩:∃m,N=m+1∧∀q∈stepsL p d,Uni ds q m:=by have:=HU.out;unfold Uni at this;rwa [if_neg hp0]at this
   have hqm:(stepsL p d).getD i []∈stepsL p d:=getD_mem' _ _ hlt;obtain⟨b8,o8,Bq,mq,cq,hA,hz8,hcell8,hsq,hmq⟩:=HNr.out.at hlt;subst hA
   have hwb:=Lib.hid (walkB_step (d:=d) (ds:=ds) (p:=p) (h:=n) (c:=15) (fun e he=>by rcases List.mem_cons.1 he with h|h;rw[h];exact hd1;exact HDS.out e h) HP.out hlt)
   have hpq:=(step_pos hd1 HP.out hqm).1;have hqu:=hum _ hqm;generalize (stepsL p d).getD i []=q at *
   have hqn:n=mq:=by rw[← hsq.1.1];exact hpq.1.symm
   subst hqn;have HUQ:=Lib.hid hqu;have HPQ:=Lib.hid hpq;have HSQ:=Lib.hid hsq;clear hqu hpq hsq hum hqm
   by_cases hdc1:dc=1
   ·have hdl0:ds=[]:=List.eq_nil_of_length_eq_zero (by omega)
    have HDT:Hid (SL w (some ⟨bD,oD,none⟩) ds.length (ds.map (Nat.cast:Nat→Int))):=by rw[hdl0];exact SL.empty _ _
    have hdl1:ds.length≤0:=by rw[hdl0];exact Nat.le_refl _
    clear hdl0;subst hdc1
    have hii:(i:Int)<((stepsL p d).length:Int):=by omega
    have q2:(ds.length:Int)+1≤(1:Int):=by omega
    have q3:(1:Int)≤(ds.length:Int)+1:=by omega
    have q5:1≤ds.length+1:=by omega
    have HIH1:Hid (∀(W:World),Below w.heap.size w W→SL W Bq n q→Calls Tryz.prog 173 #[.slice Bq n cq,.slice (some ⟨bD,oD,none⟩) 0 0] W (RetW S W (sortU (reach ds q)) m)):=fun W hW hq=>by
     have h:=HIH.out S q m Bq n cq (some ⟨bD,oD,none⟩) 0 W hq hmq HPQ.out hn hn0 (HDT.out.below hW) hdl1 HUQ.out (by omega) (fun k hk=>HSS.out k (Nat.le_trans hW.size hk))
     rw[show ds.length=0 by omega]at h
     exact h
    go_wp2_with (fail)
    go_region_held3 (fun w'=>w'.cell? ⟨b8,o8+i,none⟩=some (.slice Bq n cq))
     (first|exact keep_cell (by assumption) hb9|go_keep)
     (first
      | (go_at_call 173;refine (HIH1.out _ (by exact drw HBr.out) (by exact HSQ.out.1)).mono ?_;rintro e w9 ⟨b9,o9,n9,c9,rfl,hpl9,hc9,hb9⟩))
    rename_i hHeld
    clear hHeld;have HB9:Hid (Below wr.heap.size wr w9):=⟨hb9.os,hb9.tape,hb9.output,hb9.size,hb9.block⟩;have HBW9:Hid (Below w.heap.size w w9):=HBr.out.trans (HB9.out.mono HBr.out.size);have H90:=Lib.hid hpl9
    have hn9:n9≤331776:=by
     rw[← hpl9.len]
     exact Nat.le_trans (sortU_len _) (reach_len4 (by omega) (by rw[HPQ.out.1];exact hn))
    have hsl:(stepsL p d).length≤24:=Nat.le_trans (stepsN_len _) (by rw[HL.out];exact hn)
    have HN90:Hid (PL S w9 (some ⟨b8,o8,none⟩) (stepsL p d).length (stepsL p d)):=HNr.out.below HB9.out;have HP6:Hid (PL S w9 (some ⟨b6,o6,none⟩) n6 L):=HPLb.out.below HB9.out;clear hpl9 hb9
    rcases hst.out with⟨h1,h2,h3⟩|⟨h1,h2,h3⟩
    ·have b1:decide ((M:Int)<(m:Int)+1)=true:=decide_eq_true (by omega)
     have HBWW:Hid (Below w.heap.size w (w9.alloc (.cells #[] 26))):=HBW9.out.alloc HBW9.out.size _;have hba:Hid (Below w9.heap.size w9 (w9.alloc (.cells #[] 26))):=(Below.refl _ _).alloc (Nat.le_refl _) _;have H9:=Lib.hid (H90.out.below hba.out);have HNW:=Lib.hid (HN90.out.below hba.out)
     have HPX:Hid (PL S (w9.alloc (.cells #[] 26)) (some ⟨w9.heap.size,0,none⟩) 0 (putAll (walkB d ds p i) ((sortU (reach ds q)).take 0))):=by
      unfold Hid
      rw[h1,List.take_zero,putAll_nil,walkB_zero];exact PL.nil_ _ _ _
     have HBX:Hid (0≤0):=Nat.le_refl _;have HM1:Hid (m+1=N):=hNm.symm;clear h1 h2 h3 hst
     go_wp2_with (fail)
     go_loopw [6,12] (fun vb vk wi=>∃k:Nat,k≤n9∧vk = .int .i64 k∧∃(b7 o7 n7 c7:Nat),vb = .slice (some ⟨b7,o7,none⟩) n7 c7∧n7≤c7∧Hid (PL S wi (some ⟨b7,o7,none⟩) n7 (putAll (walkB d ds p i) ((sortU (reach ds q)).take k)))∧Hid (Below (World.heap (w9.alloc (.cells #[] 26))).size (w9.alloc (.cells #[] 26)) wi)) (fun _ vk _=>n9-(intOf vk).toNat)
     case atStart=>exact⟨0,Nat.zero_le _,rfl,w9.heap.size,0,0,0,rfl,HBX.out,HPX.out,Below.refl _ _⟩
     case round=>
      obtain⟨k,hk,rfl,b7,o7,n7,c7,rfl,hnc7,HP7,HB7⟩:=hrel
      by_cases hkn:k<n9
      ·have hkk:(k:Int)<(n9:Int):=by omega
       obtain⟨b9',o9',Br,mr,cr,hA,hz9,hcell9,hsr,hmr⟩:=(H9.out.below HB7.out).at hkn;injection hA with hA;injection hA with hA1 hA2;subst hA1 hA2;have hlen9:=H9.out.len
       have hrm:=getD_mem' (sortU (reach ds q)) ([]:List Int) (k:=k) (by omega)
       have htk:Hid ((sortU (reach ds q)).take (k+1)=(sortU (reach ds q)).take k++[(sortU (reach ds q)).getD k []]):=by
        unfold Hid
        rw[List.take_succ_eq_append_getElem (by omega)]
        simp[List.getD,show k<(sortU (reach ds q)).length by omega]
       have hdd:∀e∈d::ds,1≤e:=fun e he=>by rcases List.mem_cons.1 he with h|h;rw[h];exact hd1;exact HDS.out e h
       have hrp:PosP n 15 ((sortU (reach ds q)).getD k []):=(reach_pos HDS.out HPQ.out _ (((sortU_spec (reach_lens HDS.out HPQ.out)).2.2 _).1 hrm)).1;have hps:=walk_pos (i:=i) (k:=k) hdd HP.out HPQ.out
       have hn7:n7≤1000000:=by
        rw[← HP7.out.len];have h1:=putAll_len (walkB d ds p i) ((sortU (reach ds q)).take k)
        have h2:=walkB_len (d:=d) (ds:=ds) (p:=p) i (by simp;omega) (by rw[HL.out];exact hn)
        have h3:((sortU (reach ds q)).take k).length≤(sortU (reach ds q)).length:=by rw[List.length_take];omega
        have h4:=sortU_len (reach ds q)
        have h5:=reach_len4 (ds:=ds) (p:=q) (by omega) (by rw[HPQ.out.1];exact hn)
        omega
       generalize (sortU (reach ds q)).getD k []=r at *
       have hrn:n=mr:=by rw[← hsr.1.1];exact hrp.1.symm
       subst hrn
       have CP:=Lib.hid (l10Put_any S b7 o7 n7 c7 _ Br n cr r wr (fun j hj=>HSS.out j (by have h1:=HB7.out.size;have h2:=HBWW.out.size;omega)) HP7.out hnc7 hn7 hsr hmr hn hrp hps)
       clear hps hrp hsr hlen9 hrm
       go_wp2_with (go_at_call 174;((with_reducible refine CP.out.mono ?_);rintro e w5 ⟨b5,o5,n5,c5,rfl,hpl5,hc5,hb5⟩))
       go_roundw
       case rel=>exact⟨k+1,by omega,by go_num,b5,o5,n5,c5,rfl,hc5,by unfold Hid;rw[htk.out,putAll_snoc];exact hpl5,HB7.out.trans (hb5.mono HB7.out.size)⟩
       case measure=>(simp[intOf])<;>omega
      ·have hkl:k=n9:=by omega
       subst hkl
       have HPe:Hid (PL S wr (some ⟨b7,o7,none⟩) n7 (walkB d ds p (i+1))):=by
        have h:=HP7.out
        rw[List.take_of_length_le (by rw[H9.out.len];exact Nat.le_refl _),hwb.out]at h
        exact h
       go_wp2_with (fail)
       go_roundw
       case rel=>exact⟨i+1,by omega,by go_num,b7,o7,n7,c7,_,(m+1),rfl,by go_num,hnc7,HPe.out,.inr ⟨by omega,rfl,HM1.out⟩,HBWW.out.trans (HB7.out.mono HBWW.out.size),HNW.out.below HB7.out⟩
       case measure=>(simp[intOf])<;>omega
    ·have b1:decide ((M:Int)<(m:Int)+1)=false:=decide_eq_false (by omega)
     have b3:((m:Int)+1 == (M:Int))=true:=by simp;omega
     have HM1:Hid (M=N):=h3;have HBWW:=HBW9;have H9:=H90;have HNW:=HN90
     have HPX:Hid (PL S w9 (some ⟨b6,o6,none⟩) n6 (putAll (walkB d ds p i) ((sortU (reach ds q)).take 0))):=by
      have h:=HP6.out;rw[h2]at h;unfold Hid
      rw[List.take_zero,putAll_nil];exact h
     have HBX:=Lib.hid hnc;clear h1 h2 h3 hst
     go_wp2_with (fail)
     go_loopw [6,12] (fun vb vk wi=>∃k:Nat,k≤n9∧vk = .int .i64 k∧∃(b7 o7 n7 c7:Nat),vb = .slice (some ⟨b7,o7,none⟩) n7 c7∧n7≤c7∧Hid (PL S wi (some ⟨b7,o7,none⟩) n7 (putAll (walkB d ds p i) ((sortU (reach ds q)).take k)))∧Hid (Below (World.heap w9).size w9 wi)) (fun _ vk _=>n9-(intOf vk).toNat)
     case atStart=>exact⟨0,Nat.zero_le _,rfl,b6,o6,n6,c6,rfl,HBX.out,HPX.out,Below.refl _ _⟩
     case round=>
      obtain⟨k,hk,rfl,b7,o7,n7,c7,rfl,hnc7,HP7,HB7⟩:=hrel
      by_cases hkn:k<n9
      ·have hkk:(k:Int)<(n9:Int):=by omega
       obtain⟨b9',o9',Br,mr,cr,hA,hz9,hcell9,hsr,hmr⟩:=(H9.out.below HB7.out).at hkn;injection hA with hA;injection hA with hA1 hA2;subst hA1 hA2;have hlen9:=H9.out.len
       have hrm:=getD_mem' (sortU (reach ds q)) ([]:List Int) (k:=k) (by omega)
       have htk:Hid ((sortU (reach ds q)).take (k+1)=(sortU (reach ds q)).take k++[(sortU (reach ds q)).getD k []]):=by
        unfold Hid
        rw[List.take_succ_eq_append_getElem (by omega)]
        simp[List.getD,show k<(sortU (reach ds q)).length by omega]
       have hdd:∀e∈d::ds,1≤e:=fun e he=>by rcases List.mem_cons.1 he with h|h;rw[h];exact hd1;exact HDS.out e h
       have hrp:PosP n 15 ((sortU (reach ds q)).getD k []):=(reach_pos HDS.out HPQ.out _ (((sortU_spec (reach_lens HDS.out HPQ.out)).2.2 _).1 hrm)).1;have hps:=walk_pos (i:=i) (k:=k) hdd HP.out HPQ.out
       have hn7:n7≤1000000:=by
        rw[← HP7.out.len];have h1:=putAll_len (walkB d ds p i) ((sortU (reach ds q)).take k)
        have h2:=walkB_len (d:=d) (ds:=ds) (p:=p) i (by simp;omega) (by rw[HL.out];exact hn)
        have h3:((sortU (reach ds q)).take k).length≤(sortU (reach ds q)).length:=by rw[List.length_take];omega
        have h4:=sortU_len (reach ds q)
        have h5:=reach_len4 (ds:=ds) (p:=q) (by omega) (by rw[HPQ.out.1];exact hn)
        omega
       generalize (sortU (reach ds q)).getD k []=r at *
       have hrn:n=mr:=by rw[← hsr.1.1];exact hrp.1.symm
       subst hrn
       have CP:=Lib.hid (l10Put_any S b7 o7 n7 c7 _ Br n cr r wr (fun j hj=>HSS.out j (by have h1:=HB7.out.size;have h2:=HBWW.out.size;omega)) HP7.out hnc7 hn7 hsr hmr hn hrp hps)
       clear hps hrp hsr hlen9 hrm
       go_wp2_with (go_at_call 174;((with_reducible refine CP.out.mono ?_);rintro e w5 ⟨b5,o5,n5,c5,rfl,hpl5,hc5,hb5⟩))
       go_roundw
       case rel=>exact⟨k+1,by omega,by go_num,b5,o5,n5,c5,rfl,hc5,by unfold Hid;rw[htk.out,putAll_snoc];exact hpl5,HB7.out.trans (hb5.mono HB7.out.size)⟩
       case measure=>(simp[intOf])<;>omega
      ·have hkl:k=n9:=by omega
       subst hkl
       have HPe:Hid (PL S wr (some ⟨b7,o7,none⟩) n7 (walkB d ds p (i+1))):=by
        have h:=HP7.out
        rw[List.take_of_length_le (by rw[H9.out.len];exact Nat.le_refl _),hwb.out]at h
        exact h
       go_wp2_with (fail)
       go_roundw
       case rel=>exact⟨i+1,by omega,by go_num,b7,o7,n7,c7,_,M,rfl,by go_num,hnc7,HPe.out,.inr ⟨by omega,rfl,HM1.out⟩,HBWW.out.trans (HB7.out.mono HBWW.out.size),HNW.out.below HB7.out⟩
       case measure=>(simp[intOf])<;>omega
   ·have hii:(i:Int)<((stepsL p d).length:Int):=by omega
    have HDT:Hid (SL w (some ⟨bD,oD+1,none⟩) ds.length (ds.map (Nat.cast:Nat→Int))):=by
     have h:=HD.out.cut (k:=1) (cap:=dc) (by simp) HDC.out
     rw[if_neg hdc1]at h
     exact h
    have q1:(1:Int)≤(dc:Int):=by omega
    have q2:(ds.length:Int)+1≤(dc:Int):=by omega
    have q3:(1:Int)≤(ds.length:Int)+1:=by omega
    have q4:1≤dc:=by omega
    have q5:1≤ds.length+1:=by omega
    go_wp2_with (fail)
    go_region_held3 (fun w'=>w'.cell? ⟨b8,o8+i,none⟩=some (.slice Bq n cq))
     (first|exact keep_cell (by assumption) hb9|go_keep)
     (first
      | (go_at_call 173;refine (HIH.out S q m Bq n cq (some ⟨bD,oD+1,none⟩) (dc-1) _ (by exact HSQ.out.1) hmq (by exact HPQ.out) hn hn0 (by exact HDT.out.below (drw HBr.out)) (by omega) HUQ.out (by omega) (by exact fun k hk=>HSS.out k (Nat.le_trans HBr.out.size hk))).mono ?_;rintro e w9 ⟨b9,o9,n9,c9,rfl,hpl9,hc9,hb9⟩))
    rename_i hHeld
    clear hHeld;have HB9:Hid (Below wr.heap.size wr w9):=⟨hb9.os,hb9.tape,hb9.output,hb9.size,hb9.block⟩;have HBW9:Hid (Below w.heap.size w w9):=HBr.out.trans (HB9.out.mono HBr.out.size);have H90:=Lib.hid hpl9
    have hn9:n9≤331776:=by
     rw[← hpl9.len]
     exact Nat.le_trans (sortU_len _) (reach_len4 (by omega) (by rw[HPQ.out.1];exact hn))
    have hsl:(stepsL p d).length≤24:=Nat.le_trans (stepsN_len _) (by rw[HL.out];exact hn)
    have HN90:Hid (PL S w9 (some ⟨b8,o8,none⟩) (stepsL p d).length (stepsL p d)):=HNr.out.below HB9.out;have HP6:Hid (PL S w9 (some ⟨b6,o6,none⟩) n6 L):=HPLb.out.below HB9.out;clear hpl9 hb9
    rcases hst.out with⟨h1,h2,h3⟩|⟨h1,h2,h3⟩
    ·have b1:decide ((M:Int)<(m:Int)+1)=true:=decide_eq_true (by omega)
     have HBWW:Hid (Below w.heap.size w (w9.alloc (.cells #[] 26))):=HBW9.out.alloc HBW9.out.size _;have hba:Hid (Below w9.heap.size w9 (w9.alloc (.cells #[] 26))):=(Below.refl _ _).alloc (Nat.le_refl _) _;have H9:=Lib.hid (H90.out.below hba.out);have HNW:=Lib.hid (HN90.out.below hba.out)
     have HPX:Hid (PL S (w9.alloc (.cells #[] 26)) (some ⟨w9.heap.size,0,none⟩) 0 (putAll (walkB d ds p i) ((sortU (reach ds q)).take 0))):=by
      unfold Hid
      rw[h1,List.take_zero,putAll_nil,walkB_zero];exact PL.nil_ _ _ _
     have HBX:Hid (0≤0):=Nat.le_refl _;have HM1:Hid (m+1=N):=hNm.symm;clear h1 h2 h3 hst
     go_wp2_with (fail)
     go_loopw [6,12] (fun vb vk wi=>∃k:Nat,k≤n9∧vk = .int .i64 k∧∃(b7 o7 n7 c7:Nat),vb = .slice (some ⟨b7,o7,none⟩) n7 c7∧n7≤c7∧Hid (PL S wi (some ⟨b7,o7,none⟩) n7 (putAll (walkB d ds p i) ((sortU (reach ds q)).take k)))∧Hid (Below (World.heap (w9.alloc (.cells #[] 26))).size (w9.alloc (.cells #[] 26)) wi)) (fun _ vk _=>n9-(intOf vk).toNat)
     case atStart=>exact⟨0,Nat.zero_le _,rfl,w9.heap.size,0,0,0,rfl,HBX.out,HPX.out,Below.refl _ _⟩
     case round=>
      obtain⟨k,hk,rfl,b7,o7,n7,c7,rfl,hnc7,HP7,HB7⟩:=hrel
      by_cases hkn:k<n9
      ·have hkk:(k:Int)<(n9:Int):=by omega
       obtain⟨b9',o9',Br,mr,cr,hA,hz9,hcell9,hsr,hmr⟩:=(H9.out.below HB7.out).at hkn;injection hA with hA;injection hA with hA1 hA2;subst hA1 hA2;have hlen9:=H9.out.len
       have hrm:=getD_mem' (sortU (reach ds q)) ([]:List Int) (k:=k) (by omega)
       have htk:Hid ((sortU (reach ds q)).take (k+1)=(sortU (reach ds q)).take k++[(sortU (reach ds q)).getD k []]):=by
        unfold Hid
        rw[List.take_succ_eq_append_getElem (by omega)]
        simp[List.getD,show k<(sortU (reach ds q)).length by omega]
       have hdd:∀e∈d::ds,1≤e:=fun e he=>by rcases List.mem_cons.1 he with h|h;rw[h];exact hd1;exact HDS.out e h
       have hrp:PosP n 15 ((sortU (reach ds q)).getD k []):=(reach_pos HDS.out HPQ.out _ (((sortU_spec (reach_lens HDS.out HPQ.out)).2.2 _).1 hrm)).1;have hps:=walk_pos (i:=i) (k:=k) hdd HP.out HPQ.out
       have hn7:n7≤1000000:=by
        rw[← HP7.out.len];have h1:=putAll_len (walkB d ds p i) ((sortU (reach ds q)).take k)
        have h2:=walkB_len (d:=d) (ds:=ds) (p:=p) i (by simp;omega) (by rw[HL.out];exact hn)
        have h3:((sortU (reach ds q)).take k).length≤(sortU (reach ds q)).length:=by rw[List.length_take];omega
        have h4:=sortU_len (reach ds q)
        have h5:=reach_len4 (ds:=ds) (p:=q) (by omega) (by rw[HPQ.out.1];exact hn)
        omega
       generalize (sortU (reach ds q)).getD k []=r at *
       have hrn:n=mr:=by rw[← hsr.1.1];exact hrp.1.symm
       subst hrn
       have CP:=Lib.hid (l10Put_any S b7 o7 n7 c7 _ Br n cr r wr (fun j hj=>HSS.out j (by have h1:=HB7.out.size;have h2:=HBWW.out.size;omega)) HP7.out hnc7 hn7 hsr hmr hn hrp hps)
       clear hps hrp hsr hlen9 hrm
       go_wp2_with (go_at_call 174;((with_reducible refine CP.out.mono ?_);rintro e w5 ⟨b5,o5,n5,c5,rfl,hpl5,hc5,hb5⟩))
       go_roundw
       case rel=>exact⟨k+1,by omega,by go_num,b5,o5,n5,c5,rfl,hc5,by unfold Hid;rw[htk.out,putAll_snoc];exact hpl5,HB7.out.trans (hb5.mono HB7.out.size)⟩
       case measure=>(simp[intOf])<;>omega
      ·have hkl:k=n9:=by omega
       subst hkl
       have HPe:Hid (PL S wr (some ⟨b7,o7,none⟩) n7 (walkB d ds p (i+1))):=by
        have h:=HP7.out
        rw[List.take_of_length_le (by rw[H9.out.len];exact Nat.le_refl _),hwb.out]at h
        exact h
       go_wp2_with (fail)
       go_roundw
       case rel=>exact⟨i+1,by omega,by go_num,b7,o7,n7,c7,_,(m+1),rfl,by go_num,hnc7,HPe.out,.inr ⟨by omega,rfl,HM1.out⟩,HBWW.out.trans (HB7.out.mono HBWW.out.size),HNW.out.below HB7.out⟩
       case measure=>(simp[intOf])<;>omega
    ·have b1:decide ((M:Int)<(m:Int)+1)=false:=decide_eq_false (by omega)
     have b3:((m:Int)+1 == (M:Int))=true:=by simp;omega
     have HM1:Hid (M=N):=h3;have HBWW:=HBW9;have H9:=H90;have HNW:=HN90
     have HPX:Hid (PL S w9 (some ⟨b6,o6,none⟩) n6 (putAll (walkB d ds p i) ((sortU (reach ds q)).take 0))):=by
      have h:=HP6.out;rw[h2]at h;unfold Hid
      rw[List.take_zero,putAll_nil];exact h
     have HBX:=Lib.hid hnc;clear h1 h2 h3 hst
     go_wp2_with (fail)
     go_loopw [6,12] (fun vb vk wi=>∃k:Nat,k≤n9∧vk = .int .i64 k∧∃(b7 o7 n7 c7:Nat),vb = .slice (some ⟨b7,o7,none⟩) n7 c7∧n7≤c7∧Hid (PL S wi (some ⟨b7,o7,none⟩) n7 (putAll (walkB d ds p i) ((sortU (reach ds q)).take k)))∧Hid (Below (World.heap w9).size w9 wi)) (fun _ vk _=>n9-(intOf vk).toNat)
     case atStart=>exact⟨0,Nat.zero_le _,rfl,b6,o6,n6,c6,rfl,HBX.out,HPX.out,Below.refl _ _⟩
     case round=>
      obtain⟨k,hk,rfl,b7,o7,n7,c7,rfl,hnc7,HP7,HB7⟩:=hrel
      by_cases hkn:k<n9
      ·have hkk:(k:Int)<(n9:Int):=by omega
       obtain⟨b9',o9',Br,mr,cr,hA,hz9,hcell9,hsr,hmr⟩:=(H9.out.below HB7.out).at hkn;injection hA with hA;injection hA with hA1 hA2;subst hA1 hA2;have hlen9:=H9.out.len
       have hrm:=getD_mem' (sortU (reach ds q)) ([]:List Int) (k:=k) (by omega)
       have htk:Hid ((sortU (reach ds q)).take (k+1)=(sortU (reach ds q)).take k++[(sortU (reach ds q)).getD k []]):=by
        unfold Hid
        rw[List.take_succ_eq_append_getElem (by omega)]
        simp[List.getD,show k<(sortU (reach ds q)).length by omega]
       have hdd:∀e∈d::ds,1≤e:=fun e he=>by rcases List.mem_cons.1 he with h|h;rw[h];exact hd1;exact HDS.out e h
       have hrp:PosP n 15 ((sortU (reach ds q)).getD k []):=(reach_pos HDS.out HPQ.out _ (((sortU_spec (reach_lens HDS.out HPQ.out)).2.2 _).1 hrm)).1;have hps:=walk_pos (i:=i) (k:=k) hdd HP.out HPQ.out
       have hn7:n7≤1000000:=by
        rw[← HP7.out.len];have h1:=putAll_len (walkB d ds p i) ((sortU (reach ds q)).take k)
        have h2:=walkB_len (d:=d) (ds:=ds) (p:=p) i (by simp;omega) (by rw[HL.out];exact hn)
        have h3:((sortU (reach ds q)).take k).length≤(sortU (reach ds q)).length:=by rw[List.length_take];omega
        have h4:=sortU_len (reach ds q)
        have h5:=reach_len4 (ds:=ds) (p:=q) (by omega) (by rw[HPQ.out.1];exact hn)
        omega
       generalize (sortU (reach ds q)).getD k []=r at *
       have hrn:n=mr:=by rw[← hsr.1.1];exact hrp.1.symm
       subst hrn
       have CP:=Lib.hid (l10Put_any S b7 o7 n7 c7 _ Br n cr r wr (fun j hj=>HSS.out j (by have h1:=HB7.out.size;have h2:=HBWW.out.size;omega)) HP7.out hnc7 hn7 hsr hmr hn hrp hps)
       clear hps hrp hsr hlen9 hrm
       go_wp2_with (go_at_call 174;((with_reducible refine CP.out.mono ?_);rintro e w5 ⟨b5,o5,n5,c5,rfl,hpl5,hc5,hb5⟩))
       go_roundw
       case rel=>exact⟨k+1,by omega,by go_num,b5,o5,n5,c5,rfl,hc5,by unfold Hid;rw[htk.out,putAll_snoc];exact hpl5,HB7.out.trans (hb5.mono HB7.out.size)⟩
       case measure=>(simp[intOf])<;>omega
      ·have hkl:k=n9:=by omega
       subst hkl
       have HPe:Hid (PL S wr (some ⟨b7,o7,none⟩) n7 (walkB d ds p (i+1))):=by
        have h:=HP7.out
        rw[List.take_of_length_le (by rw[H9.out.len];exact Nat.le_refl _),hwb.out]at h
        exact h
       go_wp2_with (fail)
       go_roundw
       case rel=>exact⟨i+1,by omega,by go_num,b7,o7,n7,c7,_,M,rfl,by go_num,hnc7,HPe.out,.inr ⟨by omega,rfl,HM1.out⟩,HBWW.out.trans (HB7.out.mono HBWW.out.size),HNW.out.below HB7.out⟩
       case measure=>(simp[intOf])<;>omega
  ·have hil:i=(stepsL p d).length:=by omega
   have HR:Hid (L=sortU (reach (d::ds) p)∧M=N):=by
    by_cases hp0:p.sum=0
    ·have h0:=steps_none (d:=d) HP0.out hp0
     have hu:=HU.out;unfold Uni at hu;rw[if_pos hp0]at hu
     rcases hst.out with⟨h1,h2,h3⟩|⟨h1,_⟩
     ·exact⟨by rw[h2,reach_cons,if_pos hp0,sortU_one],by omega⟩
     ·rw[hil,h0]at h1;simp at h1
    ·have h0:=steps_some (d:=d) HP0.out hp0
     have h1:0<(stepsL p d).length:=List.length_pos_iff.2 h0
     rcases hst.out with⟨h2,_⟩|⟨_,h2,h3⟩
     ·omega
     ·exact⟨by rw[h2,hil,walkB_end hp0],h3⟩
   obtain⟨hR1,hR2⟩:=HR.out;subst hR1 hR2;clear hst
   go_wp2_with (fail)
   go_ret2
   exact⟨b6,o6,n6,c6,rfl,HPLb.out,hnc,HBr.out⟩
theorem l10Walk_all:∀(ds:List Nat),(∀e∈ds,1≤e∧e≤6)→ds.length≤4→WalkC ds
 | [],_,_=>l10Walk_nil
 | d::ds,h,hl=>l10Walk_cons d ds (h d (by simp)).1 (h d (by simp)).2 (fun e he=>(h e (by simp[he])).1) (by simpa using hl) (l10Walk_all ds (fun e he=>h e (by simp[he])) (by simp at hl;omega))
end Go.Proofs.YtkaiilmgemaljaaGreat
/- Contracts of equality of positions. There are no conditions. -/
namespace Go.Proofs.YtkaiilmgemaljaaGreat
open Go.RowKit Ps
set_option maxRecDepth 10000 in
theorem Equal_any (A B:Option Addr) (n ca cb:Nat) (p q:List Int) (w:World) (hx:SL w A n p) (hy:SL w B n q) (hn:n≤2000):
  Calls Tryz.prog 97 #[.slice A n ca,.slice B n cb] w fun e w'=>e = .returned (.bool (decide (p=q)))∧∃m,w'=w.drewN m:=by
 have HX:=Lib.hid hx;have HY:=Lib.hid hy;have hl1:=Lib.hid hx.1;have hl2:=Lib.hid hy.1;clear hx hy
 go_enter Tryz.func97,Tryz.ntmps97
 go_wp2
 go_loopw [13] (fun i wr=>∃k:Nat,k≤n∧i = .int .i64 k∧Hid (∀j,j<k→p.getD j 0=q.getD j 0)∧Hid (∃m,wr=w.drewN m)) (fun i _=>n-(intOf i).toNat)
 case atStart=>exact⟨0,by omega,rfl,fun j hj=>by omega,0,rfl⟩
 case round=>
  obtain⟨k,hk,rfl,hc,hw⟩:=hrel
  by_cases hkn:k<n
  ·have hki:(k:Int)<(n:Int):=by omega
   obtain⟨m,hm⟩:=hw.out
   have HX2:SL wr A n p:=by rw[hm];exact HX.out
   have HY2:SL wr B n q:=by rw[hm];exact HY.out
   obtain⟨b1,o1,rfl,z1,c1⟩:=HX2.2 (by omega)
   obtain⟨b2,o2,rfl,z2,c2⟩:=HY2.2 (by omega)
   have d1:=c1 k hkn;have d2:=c2 k hkn
   have E:Hid (p.getD k 0=q.getD k 0→∀j,j<k+1→p.getD j 0=q.getD j 0):=fun e j hj=>by
    by_cases h:j=k
    ·rw[h];exact e
    ·exact hc.out j (by omega)
   have D:Hid (¬p.getD k 0=q.getD k 0→decide (p=q)=false):=fun e=>decide_eq_false fun h=>e (by rw[h])
   clear HX2 HY2 c1 c2 hm;generalize p.getD k 0=x at *;generalize q.getD k 0=y at *
   by_cases hxy:x=y
   ·have b0:(x != y)=false:=by simp[hxy]
    have HE:=Lib.hid (E.out hxy);clear hxy
    go_wp2_with (fail)
    go_quiet (fail)
    go_wp2_with (fail)
    go_roundw
    case rel=>exact⟨k+1,by omega,by go_num,HE.out,drw_ex hw.out⟩
    case measure=>(simp[intOf])<;>omega
   ·have b0:(x != y)=true:=by simp[hxy]
    have HE:=Lib.hid (D.out hxy);clear hxy
    go_wp2_with (fail)
    go_quiet (fail)
    go_wp2_with (fail)
    go_ret
    exact⟨by rw[HE.out];rfl,drw_ex hw.out⟩
  ·have hkk:k=n:=by omega
   have HE:Hid (decide (p=q)=true):=decide_eq_true (ext_getD (by rw[hl1.out,hl2.out]) fun i hi=>hc.out i (by have:=hl1.out;omega))
   go_wp2_with (fail)
   go_ret
   exact⟨by rw[HE.out];rfl,hw.out⟩
theorem same_any (A B:Option Addr) (n ca cb:Nat) (p q:List Int) (w:World) (hx:SL w A n p) (hy:SL w B n q) (hn:n≤2000):
  Calls Tryz.prog 226 #[.slice A n ca,.slice B n cb] w fun e w'=>e = .returned (.bool (decide (p=q)))∧∃m,w'=w.drewN m:=by
 have CE:=Lib.hid (Equal_any A B n ca cb p q w hx hy hn);clear hx hy
 go_enter Tryz.func226,Tryz.ntmps226
 go_wp2_with (go_at_call 97;(with_reducible refine CE.out.mono ?_);rintro e w' ⟨rfl,m,rfl⟩)
 go_ret
 exact⟨rfl,m,rfl⟩
end Go.Proofs.YtkaiilmgemaljaaGreat
/- Contract of the orders of a roll, the program's. There are no conditions. -/
namespace Go.Proofs.YtkaiilmgemaljaaGreat
open Go.RowKit Ps
def castD (l:List (List Nat)):List (List Int):=l.map (List.map (Nat.cast:Nat→Int))
set_option maxRecDepth 10000 in
theorem ordersOf_any (S:Nat→Prop) (a b:Nat) (w:World) (hS:∀k,w.heap.size≤k→¬S k):
  Calls Tryz.prog 178 #[.agg #[.int .i64 a,.int .i64 b]] w (RetL S w (castD (dice a b))):=by
 have HSS:=Lib.hid hS;clear hS
 by_cases hab:a=b
 ·subst hab
  have HB1:Hid (Below w.heap.size w (w.alloc (.cells #[.int .i64 a,.int .i64 a] 39))):=(Below.refl _ _).alloc (Nat.le_refl _) _
  have HO:=Lib.hid (OwnS.made (w.alloc (.cells #[.int .i64 a,.int .i64 a] 39)) (base:=w.heap.size) 2 [(a:Int),a,a,a] #[.int .i64 a,.int .i64 a,.int .i64 a,.int .i64 a] (n:=4) rfl rfl HB1.out.size (by unfold maxLen;omega))
  have HB2:=Lib.hid (HB1.out.alloc HB1.out.size (.cells #[.int .i64 a,.int .i64 a,.int .i64 a,.int .i64 a] 2));have HP:=Lib.hid (OP.one (S:=S) HB2.out HSS.out (PV.own HO.out HSS.out));have HB3:=Lib.hid (HB2.out.alloc HB2.out.size (.cells #[.slice (some ⟨(w.alloc (.cells #[.int .i64 a,.int .i64 a] 39)).heap.size,0,none⟩) 4 4] 26))
  go_enter Tryz.func178,Tryz.ntmps178
  go_wp2
  go_ret
  have e:castD (dice a a)=[[(a:Int),a,a,a]]:=by rw[dice_eq];rfl
  rw[e]
  refine⟨w.heap.size+1+1,0,1,1,rfl,?_,by omega,?_⟩
  ·have h:=HP.out;simpa using h
  ·have h:=HB3.out;simpa using h
 ·have b0:((a:Int) == (b:Int))=false:=by simp;omega
  have HB1:Hid (Below w.heap.size w (w.alloc (.cells #[.int .i64 a,.int .i64 b] 39))):=(Below.refl _ _).alloc (Nat.le_refl _) _
  have HO1:=Lib.hid (OwnS.made (w.alloc (.cells #[.int .i64 a,.int .i64 b] 39)) (base:=w.heap.size) 2 [(a:Int),b] #[.int .i64 a,.int .i64 b] (n:=2) rfl rfl HB1.out.size (by unfold maxLen;omega))
  have HB2:=Lib.hid (HB1.out.alloc HB1.out.size (.cells #[.int .i64 a,.int .i64 b] 2))
  have HO2:=Lib.hid (OwnS.made ((w.alloc (.cells #[.int .i64 a,.int .i64 b] 39)).alloc (.cells #[.int .i64 a,.int .i64 b] 2)) (base:=w.heap.size) 2 [(b:Int),a] #[.int .i64 b,.int .i64 a] (n:=2) rfl rfl HB2.out.size (by unfold maxLen;omega))
  have HO3:=Lib.hid (HO1.out.alloc' (.cells #[.int .i64 b,.int .i64 a] 2));have HB3:=Lib.hid (HB2.out.alloc HB2.out.size (.cells #[.int .i64 b,.int .i64 a] 2))
  have HP:=Lib.hid (OP.made (S:=S) (e:=26) _ HB3.out.size HSS.out ((PVs.one (PV.own HO3.out HSS.out)).snoc (PV.own HO2.out HSS.out)) (by unfold maxLen;simp))
  have HB4:=Lib.hid (HB3.out.alloc HB3.out.size (.cells #[.slice (some ⟨(w.alloc (.cells #[.int .i64 a,.int .i64 b] 39)).heap.size,0,none⟩) 2 2,.slice (some ⟨((w.alloc (.cells #[.int .i64 a,.int .i64 b] 39)).alloc (.cells #[.int .i64 a,.int .i64 b] 2)).heap.size,0,none⟩) 2 2] 26))
  go_enter Tryz.func178,Tryz.ntmps178
  go_wp2
  go_ret
  have e:castD (dice a b)=[[(a:Int),b],[(b:Int),a]]:=by rw[dice_ne hab];rfl
  rw[e];obtain⟨A,c,hv,hpl,_⟩:=HP.out.read;injection hv with h1 h2 h3;subst h1
  refine⟨w.heap.size+1+1+1,0,2,2,rfl,?_,by omega,?_⟩
  ·simpa using hpl
  ·have h:=HB4.out;simpa using h
end Go.Proofs.YtkaiilmgemaljaaGreat
/- Contract of the library's CompactFunc at positions of the call's own. There are no conditions. -/
namespace Go.Proofs.YtkaiilmgemaljaaGreat
open Go.RowKit Ps
theorem last_take {ps:List (List Int)} {m:Nat} (h1:1≤m) (h2:m≤ps.length):(ps.take m).getLast? = some (ps.getD (m-1) []):=by
 obtain⟨j,rfl⟩:∃j,m=j+1:=⟨m-1,by omega⟩
 rw[take_snoc_getD ps [] (by omega)]
 simp
theorem cmpct_dup {ps:List (List Int)} {m:Nat} (h1:1≤m) (h2:m<ps.length) (he:ps.getD m []=ps.getD (m-1) []):cmpct (ps.take (m+1))=cmpct (ps.take m):=by
 rw[take_snoc_getD ps [] h2,cmpct_snoc,if_pos]
 rw[cmpct_last,last_take h1 (by omega),he]
theorem cmpct_new {ps:List (List Int)} {m:Nat} (h1:1≤m) (h2:m<ps.length) (he:ps.getD m []≠ps.getD (m-1) []):cmpct (ps.take (m+1))=cmpct (ps.take m)++[ps.getD m []]:=by
 rw[take_snoc_getD ps [] h2,cmpct_snoc,if_neg]
 rw[cmpct_last,last_take h1 (by omega)]
 intro h
 injection h with h
 exact he h.symm
theorem cmpct_one {ps:List (List Int)} (h:ps.length≤1):cmpct ps=ps:=by
 match ps,h with
 | [],_=>rfl
 | [p],_=>rfl
theorem PVs.at {S:Nat→Prop} {w:World} {cs:List Value} {ps:List (List Int)} (h:PVs S w cs ps) {j:Nat} (hj:j<cs.length):∃A m c,cs.getD j undef = .slice A m c∧SQ S w A m (ps.getD j []):=by
 obtain⟨A,m,c,h1,h2,_⟩:=h.2 j hj
 exact⟨A,m,c,h1,h2⟩
theorem row_cell {w:World} {base:Nat} {e:TypeId} {g n cap:Nat} {pre cs:List Value} {k:Nat} (h:w.ownsRow base e 1 (.slice (some ⟨g,0,none⟩) n cap) n (pre++cs.drop pre.length)) (hcs:cs.length=n) (hk:pre.length≤k) (hkn:k<n):
  w.cell? ⟨g,k,none⟩=some (cs.getD k undef):=by
 rw[h.cellAt k (by omega),List.getElem?_append_right hk,List.getElem?_drop,show pre.length+(k-pre.length)=k by omega]
 simp[List.getD,show k<cs.length by omega]
theorem row_keep {w:World} {base:Nat} {e:TypeId} {g n cap:Nat} {pre cs:List Value} {u:Value} (h:w.ownsRow base e 1 (.slice (some ⟨g,0,none⟩) n cap) n (pre++cs.drop pre.length)) (hcs:cs.length=n) (hkn:pre.length<n):
  (w.setCell ⟨g,pre.length,none⟩ u).ownsRow base e 1 (.slice (some ⟨g,0,none⟩) n cap) n ((pre++[u])++cs.drop (pre++[u]).length):=by
 have h2:=(h.stored pre.length u).1
 have e1:(pre++cs.drop pre.length).set pre.length u=(pre++[u])++cs.drop (pre++[u]).length:=by
  rw[List.set_append_right _ _ (Nat.le_refl _),Nat.sub_self,List.length_append,List.length_singleton,List.append_assoc]
  congr 1
  rw[List.drop_eq_getElem_cons (by omega:pre.length<cs.length)]
  rfl
 rwa [e1]at h2
theorem row_cut {w:World} {base:Nat} {e:TypeId} {g n cap:Nat} {pre rest:List Value} (h:w.ownsRow base e 1 (.slice (some ⟨g,0,none⟩) n cap) n (pre++rest)) (vs:List Value):
  (w.setCells g pre.length vs).ownsRow base e 1 (.slice (some ⟨g,0,none⟩) pre.length cap) pre.length pre∧w.grownBy (w.setCells g pre.length vs) (some g):=by
 have key:∀(vs:List Value) (o:Nat) (w:World),pre.length≤o→(∃cap' cur,cap'=cap∧base≤g∧w.heap[g]? = some (.cells cur e (0,0))∧n≤cap∧cap≤maxLen∧cur.size=cap*1∧cur.toList.take pre.length=pre)→
   (∃cap' cur,cap'=cap∧base≤g∧(w.setCells g o vs).heap[g]? = some (.cells cur e (0,0))∧n≤cap∧cap≤maxLen∧cur.size=cap*1∧cur.toList.take pre.length=pre)∧w.grownBy (w.setCells g o vs) (some g):=by
  intro vs
  induction vs with
  | nil=>intro o w _ hh;exact⟨hh,⟨rfl,rfl,rfl,Nat.le_refl _,fun _ _ _=>rfl⟩⟩
  | cons v r ih =>
    intro o w ho hh
    obtain ⟨cap', cur, h0, h1, h2, h3, h4, h5, h6⟩ := hh
    have hs := ih (o + 1) (w.setCell ⟨g, o, none⟩ v) (by omega) ⟨cap', cur.setIfInBounds o v, h0, h1, heap_setCell_same w g o cur e v h2, h3, h4, by simpa using h5, by
      rw [Array.toList_setIfInBounds, List.take_set_of_le ho]; exact h6⟩
    refine ⟨hs.1, ?_⟩
    have hg1 : w.grownBy (w.setCell ⟨g, o, none⟩ v) (some g) := ⟨rfl, rfl, rfl, by simp, fun k _ hk => heap_setCell_other w ⟨g, o, none⟩ k v (fun e => hk (by simp [e]))⟩
    have hg2 := hs.2
    exact ⟨hg2.os.trans hg1.os, hg2.tape.trans hg1.tape, hg2.output.trans hg1.output, Nat.le_trans hg1.size hg2.size, fun k hk hn => (hg2.block k (Nat.lt_of_lt_of_le hk hg1.size) hn).trans (hg1.block k hk hn)⟩
 rcases h.2 with⟨h',_⟩|⟨g',cap',cur,h',hb,hg,hnc,hcm,hcs,htake⟩
 ·simp at h'
 ·simp only[Value.slice.injEq,Option.some.injEq,Addr.mk.injEq,and_true,true_and]at h'
  obtain⟨rfl,rfl⟩:=h'
  have hpl:pre.length≤n:=by have:=h.1;simp at this;omega
  have h6:cur.toList.take pre.length=pre:=by
   have:(cur.toList.take (n*1)).take pre.length=pre:=by rw[htake];simp
   rwa [List.take_take,Nat.min_eq_left (by omega)]at this
  obtain⟨⟨_,cur2,_,k1,k2,k3,k4,k5,k6⟩,hgr⟩:=key vs pre.length w (Nat.le_refl _) ⟨cap,cur,rfl,hb,hg,hnc,hcm,hcs,h6⟩
  exact⟨⟨by simp,.inr ⟨g,cap,cur2,rfl,k1,k2,by omega,k4,k5,by rw[Nat.mul_one];exact k6⟩⟩,hgr⟩
theorem grown_trans {a b c:World} {r:Option Nat} (h:a.grownBy b r) (k:b.grownBy c r):a.grownBy c r:=
 ⟨k.os.trans h.os,k.tape.trans h.tape,k.output.trans h.output,Nat.le_trans h.size k.size,fun i hi hn=>(k.block i (Nat.lt_of_lt_of_le hi h.size) hn).trans (h.block i hi hn)⟩
theorem grown_drewN {a b:World} {r:Option Nat} (h:a.grownBy b r) (k:Nat):a.grownBy (b.drewN k) r:=⟨h.os,h.tape,h.output,h.size,h.block⟩
theorem grown_refl (a:World) (r:Option Nat):a.grownBy a r:=⟨rfl,rfl,rfl,Nat.le_refl _,fun _ _ _=>rfl⟩
theorem row_drewN {w:World} {base:Nat} {e:TypeId} {z n:Nat} {v:Value} {xs:List Value} (h:w.ownsRow base e z v n xs) (k:Nat):(w.drewN k).ownsRow base e z v n xs:=h
theorem row_clear {w:World} {base:Nat} {e:TypeId} {g n cap:Nat} {xs:List Value} (h:w.ownsRow base e 1 (.slice (some ⟨g,0,none⟩) n cap) n xs) {k:Nat} (hk:k<n) (t:TypeId) (ht:Tryz.prog.underlying t=some (.slice 26)) (ty:TypeId):
  (Builtin.clear_ #[t] ty #[.slice (some ⟨g,k,none⟩) (n-k) (cap-k)]).run Tryz.prog w = .ok (.tuple #[]) (w.setCells g k (List.replicate (n-k) (.slice none 0 0))):=
 Lib.run_clear_slice w _ 26 ty _ ht (fun _=>by kernel_rfl) rfl rfl g k (n-k) (cap-k) (by omega)
  (fun j hj=>by
   have h1:=h.cellAt (k+j) (by omega)
   have h2:=h.1
   rw[h1,List.getElem?_eq_getElem (by omega)];rfl)
  (fun j hj=>h.frozenAt (k+j))
end Go.Proofs.YtkaiilmgemaljaaGreat

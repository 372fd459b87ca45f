/- Contracts of the functions of chapter 17 that count cubes, and of what a game for money is. There are no conditions beyond those that each states. -/
import Derived.Test.YtgjapehpkakkbaaGreatLM4
import Derived.Test.YtgjapehpkakkbaaGreatLZs
set_option linter.unusedVariables false
set_option linter.unusedSimpArgs false
namespace Go.Proofs.YtgjapehpkakkbaaGreat
open Go.RowKit Mo Ps
/-! ### the valid cubes of rules -/
def cubL:Nat→List Cb
 | 0=>[(1,0)]
 | K+1=>cubL K++[(two (K+1),1),(two (K+1),2)]
theorem cubL_len:∀K,(cubL K).length=1+2*K
 | 0=>rfl
 | K+1=>by simp[cubL,cubL_len K];omega
theorem cubL_mem {K:Nat} {c:Cb} (h:CbOk K c):c∈cubL K:=by
 obtain⟨k,h1,h2,h3⟩:=h;obtain⟨v,o⟩:=c
 simp only at h2 h3
 induction K with
 | zero =>
   obtain rfl : k = 0 := by omega
   rcases h3 with ⟨_, h4⟩ | ⟨h3, _⟩
   · subst h4 h2; simp [cubL]; rfl
   · omega
 | succ K ih =>
   rw [cubL, List.mem_append]
   by_cases e : k = K + 1
   · subst e
     rcases h3 with ⟨h3, _⟩ | ⟨_, h4 | h4⟩
     · omega
     · right; subst h2 h4; simp
     · right; subst h2 h4; simp
   · exact .inl (ih (by omega))
def fIdx:List Cb→Cb→Nat
 | [],_=>0
 | a::l,c=>if a=c then 0 else fIdx l c+1
theorem fIdx_mem:∀{l:List Cb} {c:Cb},c∈l→fIdx l c<l.length∧l.getD (fIdx l c) (0,0)=c
 | [],c,h=>by simp at h
 | a :: l, c, h => by
   unfold fIdx
   by_cases e : a = c
   · rw [if_pos e]; simp [e]
   · rw [if_neg e]
     have hm : c ∈ l := by
       rcases List.mem_cons.1 h with h | h
       · exact absurd h.symm e
       · exact h
     obtain ⟨h1, h2⟩ := fIdx_mem hm
     refine ⟨by simp; omega, by simpa using h2⟩
theorem fIdx_at:∀{l:List Cb} {c:Cb} {k:Nat},k<l.length→(∀j,j<k→l.getD j (0,0)≠c)→l.getD k (0,0)=c→fIdx l c=k
 | [],c,k,h,_,_=>by simp at h
 | a :: l, c, 0, h, h1, h2 => by
   unfold fIdx
   rw [if_pos (by simpa using h2)]
 | a :: l, c, k + 1, h, h1, h2 => by
   unfold fIdx
   have h0 := h1 0 (by omega)
   rw [if_neg (by simpa using h0), fIdx_at (k := k) (by simpa using h) (fun j hj => by have := h1 (j + 1) (by omega); simpa using this) (by simpa using h2)]
def cIdx (K:Nat) (c:Cb):Nat:=fIdx (cubL K) c
theorem cIdx_lt {K:Nat} {c:Cb} (h:CbOk K c):cIdx K c<1+2*K:=by rw[← cubL_len];exact (fIdx_mem (cubL_mem h)).1
theorem cIdx_inj {K:Nat} {c c':Cb} (h:CbOk K c) (h':CbOk K c') (e:cIdx K c=cIdx K c'):c=c':=by
 have h1:=(fIdx_mem (cubL_mem h)).2;have h2:=(fIdx_mem (cubL_mem h')).2;unfold cIdx at e;rw[e]at h1
 exact h1.symm.trans h2
def cbC (l:List Cb):List Value:=l.flatMap fun c=>[.int .i64 c.1,.int .i64 c.2]
theorem cbC_app (l k:List Cb):cbC (l++k)=cbC l++cbC k:=by simp[cbC]
theorem cbC_get:∀(xs:List Cb) (k:Nat),k<xs.length→(cbC xs).getD (k*2) undef = .int .i64 (xs.getD k (0,0)).1∧(cbC xs).getD (k*2+1) undef = .int .i64 (xs.getD k (0,0)).2
 | [],k,h=>by simp at h
 | r::rs,0,_=>by simp[cbC]
 | r :: rs, k + 1, h => by
   have := cbC_get rs k (by simpa using h)
   have e : cbC (r :: rs) = .int .i64 r.1 :: .int .i64 r.2 :: cbC rs := rfl
   rw [e, show (k + 1) * 2 = k * 2 + 1 + 1 by omega]
   simpa using this
theorem Tryz.infoC:(Tryz.prog.info? 62).map (fun i=>(i.zero,i.size,i.bytes))=some (some (.agg #[.int .i64 0,.int .i64 0]),2,16):=by kernel_rfl
theorem four_new (w:World) (a b c d:Int) (e:TypeId):∀j u,[Value.int .i64 a,.int .i64 b,.int .i64 c,.int .i64 d][j]? = some u→(w.alloc (.cells #[.int .i64 a,.int .i64 b,.int .i64 c,.int .i64 d] e)).cell? ((⟨w.heap.size,0,none⟩:Addr).add j)=some u:=by
 intro j u hu
 rw[Addr.add_lit];have hj:j<4:=(List.getElem?_eq_some_iff.1 hu).1
 obtain rfl|rfl|rfl|rfl:j=0∨j=1∨j=2∨j=3:=by omega
 all_goals (simp at hu;subst hu;simp[go_sem])
theorem four_cells (a b c d:Int):∀u∈[Value.int .i64 a,.int .i64 b,.int .i64 c,.int .i64 d],u.oneCell'=true:=fun u hu=>by
 simp at hu
 rcases hu with rfl|rfl|rfl|rfl<;>rfl
def OwnCb (w:World) (base:Nat) (v:Value) (l:List Cb):Prop:=w.ownsRow base 62 2 v l.length (cbC l)
def RetCb (w:World) (l:List Cb) (e:Ending) (w':World):Prop:=∃v,e = .returned v∧OwnCb w' w.heap.size v l∧Below w.heap.size w w'
theorem two_up {k:Nat} (h:k≤11):1≤two k∧two k≤2048:=⟨two_pos k,two_mono (b:=11) h⟩
theorem two_le {k K:Nat}:two k≤two K↔k≤K:=by
 constructor
 ·intro h
  apply Classical.byContradiction
  intro hn
  have:=two_mono (show K+1≤k by omega)
  have:=two_pos K;rw[two_succ]at *
  omega
 ·exact two_mono
set_option maxHeartbeats 2000000 in
set_option maxRecDepth 10000 in
theorem l17Cubes_any (K:Nat) (b j:Bool) (w:World) (hK:K≤10):
  Calls Tryz.prog 193 #[.agg #[.int .i64 (two K),.bool b,.bool j]] w (RetCb w (cubL K)):=by
 obtain⟨i0,hi,hz0,hz1,hz2⟩:=info_parts Tryz.infoC;obtain⟨m,hm⟩:∃m,m=two K:=⟨_,rfl⟩;have HM:=Lib.hid hm
 have hmb:1≤m∧m≤1024:=by rw[hm];exact two_bd hK
 rw[← hm];clear hm
 have HF0:=Lib.hid (((Fr.start w).allocT (by simp) #[.int .i64 m,.bool b,.bool j] 59))
 have HF:Hid (Fr w ((w.alloc (.cells #[.int .i64 m,.bool b,.bool j] 59)).alloc (.cells #[.int .i64 1,.int .i64 0] 62)) [[.int .i64 m,.bool b,.bool j]]):=HF0.out.alloc _
 have HO:Hid (OwnCb ((w.alloc (.cells #[.int .i64 m,.bool b,.bool j] 59)).alloc (.cells #[.int .i64 1,.int .i64 0] 62)) (w.heap.size+1) (.slice (some ⟨w.heap.size+1,0,none⟩) 1 1) (cubL 0)):=by
  have:=World.ownsRow_lit (e:=62) (size:=2) (base:=w.heap.size+1) (w.alloc (.cells #[.int .i64 m,.bool b,.bool j] 59)) #[.int .i64 1,.int .i64 0] 1 (by simp) (by unfold maxLen;omega) rfl
  have e:(w.alloc (.cells #[.int .i64 m,.bool b,.bool j] 59)).heap.size=w.heap.size+1:=by simp
  rw[e]at this
  exact this
 clear HF0
 go_enter Tryz.func193,Tryz.ntmps193
 go_wp2_with (fail)
 go_loopw [3,4] (fun v va wr=>∃(k:Nat) (p:Int),k≤K∧va = .int .i64 p∧Hid (p=two (k+1))∧Hid (OwnCb wr (w.heap.size+1) v (cubL k))∧Hid (Fr w wr [[.int .i64 m,.bool b,.bool j]])) (fun _ va _=>(2048-intOf va).toNat)
 case atStart=>exact⟨0,2,Nat.zero_le _,rfl,rfl,HO.out,HF.out⟩
 case round=>
  obtain⟨k,p,hk,rfl,HP,HOa,HFa⟩:=hrel;clear HO HF
  have hpb:1≤p∧p≤2048:=by rw[HP.out];exact two_up (by omega)
  have z0:=HFa.out.l0 (by simp)
  have c00:=HFa.out.c0 0 rfl;have f00:=HFa.out.f0 0 rfl;have c01:=HFa.out.c0 1 rfl;have f01:=HFa.out.f0 1 rfl;have c02:=HFa.out.c0 2 rfl;have f02:=HFa.out.f0 2 rfl
  by_cases hlt:k<K
  ·have hple:p≤m:=by rw[HP.out,HM.out];exact two_mono (by omega)
   have HL:Hid ((cubL k).length≤21):=by unfold Hid;rw[cubL_len];omega
   go_wp2_with (at_builtin;refine wpList_append_own _ rfl _ _ 205 rfl (w.heap.size+1) 62 i0 (.agg #[.int .i64 0,.int .i64 0]) 2 16 Tryz.underlying205 hi hz0 hz1 hz2 rfl (by decide) _ _ _ rfl (row_alloc HOa.out _) ⟨wr.heap.size,0,none⟩ 2 2 [.int .i64 p,.int .i64 1,.int .i64 p,.int .i64 2] rfl rfl (four_new _ _ _ _ _ _) (four_cells _ _ _ _) (by have:=HL.out;unfold maxLen;omega) (by have:=HL.out;omega) (by have:=HFa.out.z;simp at this;simp;omega) ?_;intro v' w1 hown hgrow _)
   have HF2:=Lib.hid ((HFa.out.alloc _).grow hgrow (row_alloc HOa.out _) (by simp))
   have HO2:Hid (OwnCb w1 (w.heap.size+1) v' (cubL (k+1))):=by
    unfold Hid OwnCb
    rw[show cubL (k+1)=cubL k++[(two (k+1),1),(two (k+1),2)] from rfl,cbC_app,List.length_append,← HP.out]
    exact hown
   clear hown hgrow
   have HP2:Hid (2*p=two (k+1+1)):=by unfold Hid;rw[two_succ (k+1),← HP.out]
   go_wp2_with (fail)
   go_roundw
   case rel=>exact⟨k+1,2*p,by omega,rfl,HP2.out,HO2.out,HF2.out⟩
   case measure=>(simp[intOf])<;>omega
  ·have hke:k=K:=by omega
   have hple:¬p≤m:=by rw[HP.out,HM.out,two_le];omega
   subst hke
   have HR:Hid (RetCb w (cubL k) (.returned _) wr):=⟨_,rfl,own_base HOa.out (by omega),HFa.out.b⟩
   go_wp2_with (fail)
   go_ret
   exact HR.out
theorem OwnCb.at {w:World} {base:Nat} {v:Value} {l:List Cb} (h:OwnCb w base v l) (hl:0<l.length):∃b c,v = .slice (some ⟨b,0,none⟩) l.length c∧l.length≤c∧b<w.heap.size∧base≤b∧∀k,k<l.length→w.cell? ⟨b,k*2,none⟩=some (.int .i64 (l.getD k (0,0)).1)∧w.cell? ⟨b,k*2+1,none⟩=some (.int .i64 (l.getD k (0,0)).2):=by
 obtain⟨A,c,hv,hs,hc⟩:=row_read (S:=fun _=>False) h (fun k hk=>id) (by omega)
 obtain⟨b,off,hA,hlt,_,hcell⟩:=hs.2 hl
 have h0:off=0:=by
  subst hA
  rcases h.2 with⟨h1,_⟩|⟨g,cap,cur,h1,_⟩
  ·rw[hv]at h1;cases h1
  ·rw[hv]at h1;injection h1 with h1;injection h1 with h1;injection h1
 subst h0;subst hA
 have hlo:base≤b:=(World.ownsRow.lt h b (by rw[hv];rfl)).1
 refine⟨b,c,hv,hc,hlt,hlo,fun k hk=>?_⟩
 obtain⟨e1,e2⟩:=cbC_get l k hk
 have d1:=hcell (k*2) (by omega)
 have d2:=hcell (k*2+1) (by omega)
 rw[Nat.zero_add]at d1 d2
 exact⟨by rw[d1,e1],by rw[d2,e2]⟩
def cntC (K:Nat):Int:=1+2*(K:Int)
theorem sCubeCount_any (K:Nat) (b j:Bool) (w:World) (hK:K≤10):
  Calls Tryz.prog 151 #[.agg #[.int .i64 (two K),.bool b,.bool j]] w fun e w'=>e = .returned (.int .i64 (cntC K))∧Below w.heap.size w w':=by
 have HC:=Lib.hid fun (W:World)=>l17Cubes_any K b j W hK
 have hr:rulB (two K)=true:=pwU_yes.2 ⟨K,hK,rfl,(two_bd hK).2⟩;have HB:Hid (Below w.heap.size w (w.alloc (.cells #[.int .i64 (two K),.bool b,.bool j] 59))):=(Below.refl _ _).alloc (Nat.le_refl _) _
 have HE:Hid (((cubL K).length:Int)=cntC K):=by unfold Hid cntC;rw[cubL_len];omega
 have HL:Hid (0<(cubL K).length):=by unfold Hid;rw[cubL_len];omega
 generalize two K=m at *
 go_enter Tryz.func151,Tryz.ntmps151
 go_wp2_with (go_at_call 147;refine (more_first (sIsCubeRules_any _ _ _ _)).mono ?_;rintro e w' ⟨rfl,t,rfl⟩)
 refine (HC.out _).mono ?_
 rintro e w1 ⟨v,rfl,ho,hb⟩
 obtain⟨bb,c,rfl,_⟩:=ho.at HL.out;have HB2:Hid (Below w.heap.size w w1):=(HB.out.trans ((below_more _ t).mono HB.out.size)).trans (hb.mono (HB.out.trans ((below_more _ t).mono HB.out.size)).size);clear ho hb HC
 go_wp2_with (fail)
 go_ret
 exact⟨by rw[← HE.out]<;>rfl,HB2.out⟩
theorem cntC_bd {K:Nat} (h:K≤10):1≤cntC K∧cntC K≤21:=by unfold cntC;omega
set_option maxHeartbeats 1000000 in
theorem CubeCount_any (K:Nat) (b j:Bool) (w:World) (hK:K≤10):
  Calls Tryz.prog 196 #[.agg #[.int .i64 (two K),.bool b,.bool j]] w fun e w'=>e = .returned (.int .i64 (cntC K))∧Below w.heap.size w w':=by
 have hr:rulB (two K)=true:=pwU_yes.2 ⟨K,hK,rfl,(two_bd hK).2⟩;have HB:Hid (Below w.heap.size w (w.alloc (.cells #[.int .i64 (two K),.bool b,.bool j] 59))):=(Below.refl _ _).alloc (Nat.le_refl _) _;obtain⟨m,hm⟩:∃m,m=two K:=⟨_,rfl⟩;have HM:=Lib.hid hm;rw[← hm]at hr HB ⊢;clear hm
 have HE:Hid (∀n:Int,n=1+2*(K:Int)→n=cntC K):=fun n h=>h
 go_enter Tryz.func196,Tryz.ntmps196
 go_wp2_with (go_at_call 157;refine (more_first (IsCubeRules_any _ _ _ _)).mono ?_;rintro e w' ⟨rfl,t,rfl⟩)
 go_loop [3,4] (fun va vb=>∃(k:Nat) (p:Int),k≤K∧va = .int .i64 (1+2*((K:Int)-k))∧vb = .int .i64 p∧Hid (p=two k)) (fun _ vb=>(intOf vb).toNat)
 case atStart=>exact⟨K,m,Nat.le_refl _,by rw[show (1:Int)+2*((K:Int)-K)=1 by omega],rfl,HM.out⟩
 case round=>
  obtain⟨k,p,hk,rfl,rfl,HP⟩:=hrel
  by_cases h0:k=0
  ·have hp:p=1:=by rw[HP.out,h0];rfl
   have hgt:¬1<p:=by omega
   have HN:Hid (1+2*((K:Int)-(k:Int))=cntC K):=HE.out _ (by omega)
   clear hp
   go_wp2_with (fail)
   go_ret
   exact⟨by first|rfl|(rw[HN.out]<;>rfl),HB.out.trans ((below_more _ _).mono HB.out.size)⟩
  ·obtain⟨k',rfl⟩:∃k',k=k'+1:=⟨k-1,by omega⟩
   have hp2:p=2*two k':=by rw[HP.out,two_succ]
   have hpos:=two_pos k'
   have hp1:1<p:=by omega
   have hp4:p≤2048:=by rw[HP.out];exact (two_up (by omega)).2
   have HQ:Hid (p / 2=two k'):=by unfold Hid;omega
   clear hp2 hpos
   go_wp2_with (fail)
   go_round
   case rel=>exact⟨k',p / 2,by omega,by first|rfl|(congr 1;omega),by first|rfl|go_num,HQ.out⟩
   case measure=>(simp[intOf])<;>omega
/-! ### games for money -/
def gamB (h c:Nat) (K:Nat):Bool:=decide (wys h c≤20000∧(wys h c*wys h c:Nat)*cntC K≤20000)
theorem gamB_yes {h c K:Nat} (H:gamB h c K=true):wys h c≤141∧((wys h c*wys h c:Nat):Int)*cntC K≤20000:=by
 have:=of_decide_eq_true H
 refine⟨?_,this.2⟩
 have h1:((wys h c*wys h c:Nat):Int)*1≤((wys h c*wys h c:Nat):Int)*cntC K:=Int.mul_le_mul_of_nonneg_left (by unfold cntC;omega) (by omega)
 apply Classical.byContradiction
 intro hn
 have h2:142*142≤wys h c*wys h c:=Nat.mul_le_mul (by omega) (by omega)
 omega
end Go.Proofs.YtgjapehpkakkbaaGreat
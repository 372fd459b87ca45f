/- Part of one proof. There are no conditions. -/
import Derived.Test.YtgjapehpkakkbaaGreatDM4
import Derived.Test.YtgjapehpkakkbaaGreatDZs
import Derived.Test.YtgjapehpkakkbaaGreatDZc
import Derived.Test.YtgjapehpkakkbaaGreatDZm
import Derived.IntWalk
import Derived.Test.YtgjapehpkakkbaaGreatDZo
import Derived.Test.YtgjapehpkakkbaaGreatDN13
import Derived.Test.YtgjapehpkakkbaaGreatDJ1
import Derived.DeepKeys4
set_option linter.unusedVariables false
set_option linter.unusedSimpArgs false
namespace Go.Proofs.YtgjapehpkakkbaaGreat
open Go.RowKit Mo Ps
/-! ### the valid cubes of rules -/
def cubL:Nat→List Cb
 | 0=>[(1,0)]
 | K+1=>cubL K++[(two (K+1),1),(two (K+1),2)]
theorem cubL_len:∀K,(cubL K).length=1+2*K
 | 0=>rfl
 | K+1=>by simp[cubL,cubL_len K];omega
theorem cubL_mem {K:Nat} {c:Cb} (h:CbOk K c):c∈cubL K:=by
 obtain⟨k,h1,h2,h3⟩:=h;obtain⟨v,o⟩:=c
 simp only at h2 h3
 induction K with
 | zero =>
   obtain rfl : k = 0 := by omega
   rcases h3 with ⟨_, h4⟩ | ⟨h3, _⟩
   · subst h4 h2; simp [cubL]; rfl
   · omega
 | succ K ih =>
   rw [cubL, List.mem_append]
   by_cases e : k = K + 1
   · subst e
     rcases h3 with ⟨h3, _⟩ | ⟨_, h4 | h4⟩
     · omega
     · right; subst h2 h4; simp
     · right; subst h2 h4; simp
   · exact .inl (ih (by omega))
def fIdx:List Cb→Cb→Nat
 | [],_=>0
 | a::l,c=>if a=c then 0 else fIdx l c+1
theorem fIdx_mem:∀{l:List Cb} {c:Cb},c∈l→fIdx l c<l.length∧l.getD (fIdx l c) (0,0)=c
 | [],c,h=>by simp at h
 | a :: l, c, h => by
   unfold fIdx
   by_cases e : a = c
   · rw [if_pos e]; simp [e]
   · rw [if_neg e]
     have hm : c ∈ l := by
       rcases List.mem_cons.1 h with h | h
       · exact absurd h.symm e
       · exact h
     obtain ⟨h1, h2⟩ := fIdx_mem hm
     refine ⟨by simp; omega, by simpa using h2⟩
theorem fIdx_at:∀{l:List Cb} {c:Cb} {k:Nat},k<l.length→(∀j,j<k→l.getD j (0,0)≠c)→l.getD k (0,0)=c→fIdx l c=k
 | [],c,k,h,_,_=>by simp at h
 | a :: l, c, 0, h, h1, h2 => by
   unfold fIdx
   rw [if_pos (by simpa using h2)]
 | a :: l, c, k + 1, h, h1, h2 => by
   unfold fIdx
   have h0 := h1 0 (by omega)
   rw [if_neg (by simpa using h0), fIdx_at (k := k) (by simpa using h) (fun j hj => by have := h1 (j + 1) (by omega); simpa using this) (by simpa using h2)]
def cIdx (K:Nat) (c:Cb):Nat:=fIdx (cubL K) c
theorem cIdx_lt {K:Nat} {c:Cb} (h:CbOk K c):cIdx K c<1+2*K:=by rw[← cubL_len];exact (fIdx_mem (cubL_mem h)).1
theorem cIdx_inj {K:Nat} {c c':Cb} (h:CbOk K c) (h':CbOk K c') (e:cIdx K c=cIdx K c'):c=c':=by
 have h1:=(fIdx_mem (cubL_mem h)).2;have h2:=(fIdx_mem (cubL_mem h')).2;unfold cIdx at e;rw[e]at h1
 exact h1.symm.trans h2
def cbC (l:List Cb):List Value:=l.flatMap fun c=>[.int .i64 c.1,.int .i64 c.2]
theorem cbC_app (l k:List Cb):cbC (l++k)=cbC l++cbC k:=by simp[cbC]
theorem cbC_get:∀(xs:List Cb) (k:Nat),k<xs.length→(cbC xs).getD (k*2) undef = .int .i64 (xs.getD k (0,0)).1∧(cbC xs).getD (k*2+1) undef = .int .i64 (xs.getD k (0,0)).2
 | [],k,h=>by simp at h
 | r::rs,0,_=>by simp[cbC]
 | r :: rs, k + 1, h => by
   have := cbC_get rs k (by simpa using h)
   have e : cbC (r :: rs) = .int .i64 r.1 :: .int .i64 r.2 :: cbC rs := rfl
   rw [e, show (k + 1) * 2 = k * 2 + 1 + 1 by omega]
   simpa using this
theorem Tryz.infoC:(Tryz.prog.info? 62).map (fun i=>(i.zero,i.size,i.bytes))=some (some (.agg #[.int .i64 0,.int .i64 0]),2,16):=by kernel_rfl
theorem four_new (w:World) (a b c d:Int) (e:TypeId):∀j u,[Value.int .i64 a,.int .i64 b,.int .i64 c,.int .i64 d][j]? = some u→(w.alloc (.cells #[.int .i64 a,.int .i64 b,.int .i64 c,.int .i64 d] e)).cell? ((⟨w.heap.size,0,none⟩:Addr).add j)=some u:=by
 intro j u hu
 rw[Addr.add_lit];have hj:j<4:=(List.getElem?_eq_some_iff.1 hu).1
 obtain rfl|rfl|rfl|rfl:j=0∨j=1∨j=2∨j=3:=by omega
 all_goals (simp at hu;subst hu;simp[go_sem])
theorem four_cells (a b c d:Int):∀u∈[Value.int .i64 a,.int .i64 b,.int .i64 c,.int .i64 d],u.oneCell'=true:=fun u hu=>by
 simp at hu
 rcases hu with rfl|rfl|rfl|rfl<;>rfl
def OwnCb (w:World) (base:Nat) (v:Value) (l:List Cb):Prop:=w.ownsRow base 62 2 v l.length (cbC l)
def RetCb (w:World) (l:List Cb) (e:Ending) (w':World):Prop:=∃v,e = .returned v∧OwnCb w' w.heap.size v l∧Below w.heap.size w w'
theorem two_up {k:Nat} (h:k≤11):1≤two k∧two k≤2048:=⟨two_pos k,two_mono (b:=11) h⟩
theorem two_le {k K:Nat}:two k≤two K↔k≤K:=by
 constructor
 ·intro h
  apply Classical.byContradiction
  intro hn
  have:=two_mono (show K+1≤k by omega)
  have:=two_pos K;rw[two_succ]at *
  omega
 ·exact two_mono
set_option maxHeartbeats 2000000 in
set_option maxRecDepth 10000 in
theorem l17Cubes_any (K:Nat) (b j:Bool) (w:World) (hK:K≤10):
  Calls Tryz.prog 193 #[.agg #[.int .i64 (two K),.bool b,.bool j]] w (RetCb w (cubL K)):=by
 obtain⟨i0,hi,hz0,hz1,hz2⟩:=info_parts Tryz.infoC;obtain⟨m,hm⟩:∃m,m=two K:=⟨_,rfl⟩;have HM:=h_ hm
 have hmb:1≤m∧m≤1024:=by rw[hm];exact two_bd hK
 rw[← hm];clear hm
 have HF0:=h_ (((Fr.start w).allocT (by simp) #[.int .i64 m,.bool b,.bool j] 59))
 have HF:Hid (Fr w ((w.alloc (.cells #[.int .i64 m,.bool b,.bool j] 59)).alloc (.cells #[.int .i64 1,.int .i64 0] 62)) [[.int .i64 m,.bool b,.bool j]]):=HF0.out.alloc _
 have HO:Hid (OwnCb ((w.alloc (.cells #[.int .i64 m,.bool b,.bool j] 59)).alloc (.cells #[.int .i64 1,.int .i64 0] 62)) (w.heap.size+1) (.slice (some ⟨w.heap.size+1,0,none⟩) 1 1) (cubL 0)):=by
  have:=World.ownsRow_lit (e:=62) (size:=2) (base:=w.heap.size+1) (w.alloc (.cells #[.int .i64 m,.bool b,.bool j] 59)) #[.int .i64 1,.int .i64 0] 1 (by simp) (by unfold maxLen;omega) rfl
  have e:(w.alloc (.cells #[.int .i64 m,.bool b,.bool j] 59)).heap.size=w.heap.size+1:=by simp
  rw[e]at this
  exact this
 clear HF0
 go_enter Tryz.func193,Tryz.ntmps193
 go_wp2_with (fail)
 go_loopw [3,4] (fun v va wr=>∃(k:Nat) (p:Int),k≤K∧va = .int .i64 p∧Hid (p=two (k+1))∧Hid (OwnCb wr (w.heap.size+1) v (cubL k))∧Hid (Fr w wr [[.int .i64 m,.bool b,.bool j]])) (fun _ va _=>(2048-intOf va).toNat)
 case atStart=>exact⟨0,2,Nat.zero_le _,rfl,rfl,HO.out,HF.out⟩
 case round=>
  obtain⟨k,p,hk,rfl,HP,HOa,HFa⟩:=hrel;clear HO HF
  have hpb:1≤p∧p≤2048:=by rw[HP.out];exact two_up (by omega)
  have z0:=HFa.out.l0 (by simp)
  have c00:=HFa.out.c0 0 rfl;have f00:=HFa.out.f0 0 rfl;have c01:=HFa.out.c0 1 rfl;have f01:=HFa.out.f0 1 rfl;have c02:=HFa.out.c0 2 rfl;have f02:=HFa.out.f0 2 rfl
  by_cases hlt:k<K
  ·have hple:p≤m:=by rw[HP.out,HM.out];exact two_mono (by omega)
   have HL:Hid ((cubL k).length≤21):=by unfold Hid;rw[cubL_len];omega
   go_wp2_with (at_builtin;refine wpList_append_own _ rfl _ _ 205 rfl (w.heap.size+1) 62 i0 (.agg #[.int .i64 0,.int .i64 0]) 2 16 Tryz.underlying205 hi hz0 hz1 hz2 rfl (by decide) _ _ _ rfl (row_alloc HOa.out _) ⟨wr.heap.size,0,none⟩ 2 2 [.int .i64 p,.int .i64 1,.int .i64 p,.int .i64 2] rfl rfl (four_new _ _ _ _ _ _) (four_cells _ _ _ _) (by have:=HL.out;unfold maxLen;omega) (by have:=HL.out;omega) (by have:=HFa.out.z;simp at this;simp;omega) ?_;intro v' w1 hown hgrow _)
   have HF2:=h_ ((HFa.out.alloc _).grow hgrow (row_alloc HOa.out _) (by simp))
   have HO2:Hid (OwnCb w1 (w.heap.size+1) v' (cubL (k+1))):=by
    unfold Hid OwnCb
    rw[show cubL (k+1)=cubL k++[(two (k+1),1),(two (k+1),2)] from rfl,cbC_app,List.length_append,← HP.out]
    exact hown
   clear hown hgrow
   have HP2:Hid (2*p=two (k+1+1)):=by unfold Hid;rw[two_succ (k+1),← HP.out]
   go_wp2_with (fail)
   go_roundw
   case rel=>exact⟨k+1,2*p,by omega,rfl,HP2.out,HO2.out,HF2.out⟩
   case measure=>(simp[intOf])<;>omega
  ·have hke:k=K:=by omega
   have hple:¬p≤m:=by rw[HP.out,HM.out,two_le];omega
   subst hke
   have HR:Hid (RetCb w (cubL k) (.returned _) wr):=⟨_,rfl,own_base HOa.out (by omega),HFa.out.b⟩
   go_wp2_with (fail)
   go_ret
   exact HR.out
theorem OwnCb.at {w:World} {base:Nat} {v:Value} {l:List Cb} (h:OwnCb w base v l) (hl:0<l.length):∃b c,v = .slice (some ⟨b,0,none⟩) l.length c∧l.length≤c∧b<w.heap.size∧base≤b∧∀k,k<l.length→w.cell? ⟨b,k*2,none⟩=some (.int .i64 (l.getD k (0,0)).1)∧w.cell? ⟨b,k*2+1,none⟩=some (.int .i64 (l.getD k (0,0)).2):=by
 obtain⟨A,c,hv,hs,hc⟩:=row_read (S:=fun _=>False) h (fun k hk=>id) (by omega)
 obtain⟨b,off,hA,hlt,_,hcell⟩:=hs.2 hl
 have h0:off=0:=by
  subst hA
  rcases h.2 with⟨h1,_⟩|⟨g,cap,cur,h1,_⟩
  ·rw[hv]at h1;cases h1
  ·rw[hv]at h1;injection h1 with h1;injection h1 with h1;injection h1
 subst h0;subst hA
 have hlo:base≤b:=(World.ownsRow.lt h b (by rw[hv];rfl)).1
 refine⟨b,c,hv,hc,hlt,hlo,fun k hk=>?_⟩
 obtain⟨e1,e2⟩:=cbC_get l k hk
 have d1:=hcell (k*2) (by omega)
 have d2:=hcell (k*2+1) (by omega)
 rw[Nat.zero_add]at d1 d2
 exact⟨by rw[d1,e1],by rw[d2,e2]⟩
def cntC (K:Nat):Int:=1+2*(K:Int)
theorem sCubeCount_any (K:Nat) (b j:Bool) (w:World) (hK:K≤10):
  Calls Tryz.prog 151 #[.agg #[.int .i64 (two K),.bool b,.bool j]] w fun e w'=>e = .returned (.int .i64 (cntC K))∧Below w.heap.size w w':=by
 have HC:=h_ fun (W:World)=>l17Cubes_any K b j W hK
 have hr:rulB (two K)=true:=pwU_yes.2 ⟨K,hK,rfl,(two_bd hK).2⟩;have HB:Hid (Below w.heap.size w (w.alloc (.cells #[.int .i64 (two K),.bool b,.bool j] 59))):=(Below.refl _ _).alloc (Nat.le_refl _) _
 have HE:Hid (((cubL K).length:Int)=cntC K):=by unfold Hid cntC;rw[cubL_len];omega
 have HL:Hid (0<(cubL K).length):=by unfold Hid;rw[cubL_len];omega
 generalize two K=m at *
 go_enter Tryz.func151,Tryz.ntmps151
 go_wp2_with (go_at_call 147;refine (more_first (sIsCubeRules_any _ _ _ _)).mono ?_;rintro e w' ⟨rfl,t,rfl⟩)
 refine (HC.out _).mono ?_
 rintro e w1 ⟨v,rfl,ho,hb⟩
 obtain⟨bb,c,rfl,_⟩:=ho.at HL.out;have HB2:Hid (Below w.heap.size w w1):=(HB.out.trans ((below_more _ t).mono HB.out.size)).trans (hb.mono (HB.out.trans ((below_more _ t).mono HB.out.size)).size);clear ho hb HC
 go_wp2_with (fail)
 go_ret
 exact⟨by rw[← HE.out]<;>rfl,HB2.out⟩
theorem cntC_bd {K:Nat} (h:K≤10):1≤cntC K∧cntC K≤21:=by unfold cntC;omega
set_option maxHeartbeats 1000000 in
theorem CubeCount_any (K:Nat) (b j:Bool) (w:World) (hK:K≤10):
  Calls Tryz.prog 196 #[.agg #[.int .i64 (two K),.bool b,.bool j]] w fun e w'=>e = .returned (.int .i64 (cntC K))∧Below w.heap.size w w':=by
 have hr:rulB (two K)=true:=pwU_yes.2 ⟨K,hK,rfl,(two_bd hK).2⟩;have HB:Hid (Below w.heap.size w (w.alloc (.cells #[.int .i64 (two K),.bool b,.bool j] 59))):=(Below.refl _ _).alloc (Nat.le_refl _) _;obtain⟨m,hm⟩:∃m,m=two K:=⟨_,rfl⟩;have HM:=h_ hm;rw[← hm]at hr HB ⊢;clear hm
 have HE:Hid (∀n:Int,n=1+2*(K:Int)→n=cntC K):=fun n h=>h
 go_enter Tryz.func196,Tryz.ntmps196
 go_wp2_with (go_at_call 157;refine (more_first (IsCubeRules_any _ _ _ _)).mono ?_;rintro e w' ⟨rfl,t,rfl⟩)
 go_loop [3,4] (fun va vb=>∃(k:Nat) (p:Int),k≤K∧va = .int .i64 (1+2*((K:Int)-k))∧vb = .int .i64 p∧Hid (p=two k)) (fun _ vb=>(intOf vb).toNat)
 case atStart=>exact⟨K,m,Nat.le_refl _,by rw[show (1:Int)+2*((K:Int)-K)=1 by omega],rfl,HM.out⟩
 case round=>
  obtain⟨k,p,hk,rfl,rfl,HP⟩:=hrel
  by_cases h0:k=0
  ·have hp:p=1:=by rw[HP.out,h0];rfl
   have hgt:¬1<p:=by omega
   have HN:Hid (1+2*((K:Int)-(k:Int))=cntC K):=HE.out _ (by omega)
   clear hp
   go_wp2_with (fail)
   go_ret
   exact⟨by first|rfl|(rw[HN.out]<;>rfl),HB.out.trans ((below_more _ _).mono HB.out.size)⟩
  ·obtain⟨k',rfl⟩:∃k',k=k'+1:=⟨k-1,by omega⟩
   have hp2:p=2*two k':=by rw[HP.out,two_succ]
   have hpos:=two_pos k'
   have hp1:1<p:=by omega
   have hp4:p≤2048:=by rw[HP.out];exact (two_up (by omega)).2
   have HQ:Hid (p / 2=two k'):=by unfold Hid;omega
   clear hp2 hpos
   go_wp2_with (fail)
   go_round
   case rel=>exact⟨k',p / 2,by omega,by first|rfl|(congr 1;omega),by first|rfl|go_num,HQ.out⟩
   case measure=>(simp[intOf])<;>omega
/-! ### games for money -/
def gamB (h c:Nat) (K:Nat):Bool:=decide (wys h c≤20000∧(wys h c*wys h c:Nat)*cntC K≤20000)
theorem gamB_yes {h c K:Nat} (H:gamB h c K=true):wys h c≤141∧((wys h c*wys h c:Nat):Int)*cntC K≤20000:=by
 have:=of_decide_eq_true H
 refine⟨?_,this.2⟩
 have h1:((wys h c*wys h c:Nat):Int)*1≤((wys h c*wys h c:Nat):Int)*cntC K:=Int.mul_le_mul_of_nonneg_left (by unfold cntC;omega) (by omega)
 apply Classical.byContradiction
 intro hn
 have h2:142*142≤wys h c*wys h c:=Nat.mul_le_mul (by omega) (by omega)
 omega
end Go.Proofs.YtgjapehpkakkbaaGreat
namespace Go.Proofs.YtgjapehpkakkbaaGreat
open Go.RowKit Mo Ps
set_option maxHeartbeats 2000000 in
theorem IsMoneyGame_any (p:Int) (c h s K:Nat) (b j:Bool) (w:World) (hv:isVar p c h s=true) (hK:K≤10):
  Calls Tryz.prog 159 #[.agg #[.int .i64 p,.int .i64 c,.int .i64 h,.int .i64 s],.agg #[.int .i64 (two K),.bool b,.bool j]] w fun e w'=>e = .returned (.bool (gamB h c K))∧Below w.heap.size w w':=by
 have hvv:=isVar_yes hv
 have CN:=h_ fun (W:World)=>BearoffCount_any p s c h W hv
 have CC:=h_ fun (W:World)=>CubeCount_any K b j W hK
 have hr:rulB (two K)=true:=pwU_yes.2 ⟨K,hK,rfl,(two_bd hK).2⟩;have hcb:=cntC_bd hK
 have HB:Hid (Below w.heap.size w ((w.alloc (.cells #[.int .i64 p,.int .i64 c,.int .i64 h,.int .i64 s] 25)).alloc (.cells #[.int .i64 (two K),.bool b,.bool j] 59))):=((Below.refl _ _).alloc (Nat.le_refl _) _).alloc (by simp) _
 have hpos:1≤wys h c:=wys_pos _ _;have HG:Hid (gamB h c K=decide (wys h c≤20000∧((wys h c*wys h c:Nat):Int)*cntC K≤20000)):=rfl
 by_cases hmil:wys h c≤1000000
 rotate_left
 ·have H:Hid (gamB h c K=false):=by unfold Hid;rw[HG.out];exact decide_eq_false fun h=>by omega
  rw[wysC_no hmil]at CN;clear HG hpos hmil hvv hv;generalize gamB h c K=g at *;generalize two K=m at *
  go_enter Tryz.func159,Tryz.ntmps159
  go_wp2_with (first|(go_at_call 122;(with_reducible refine (more_first (CN.out _)).mono ?_);rintro e w' ⟨rfl,t,rfl⟩)|(go_at_call 157;(with_reducible refine (more_call (IsCubeRules_any _ _ _ _)).mono ?_);rintro e w' ⟨rfl,t,rfl⟩)|(go_at_call 196;(with_reducible refine (more_call (CC.out _)).mono ?_);rintro e w' ⟨rfl,t,rfl⟩))
  go_ret
  exact⟨by rw[H.out]<;>rfl,HB.out.trans ((below_more _ _).mono HB.out.size)⟩
 rw[wysC_ok hmil]at CN;generalize gamB h c K=g at *;generalize wys h c=N at *;generalize cntC K=cn at *;generalize two K=m at *;clear hvv hv
 by_cases hN:N≤20000
 ·have hmul:N*N≤20000*20000:=Nat.mul_le_mul hN hN
  have hw1:IntKind.i64.wrap ((N:Int)*(N:Int))=((N*N:Nat):Int):=by
   rw[← Int.natCast_mul];exact IntWalk.i64_in _ (by omega)
  obtain⟨M,hM⟩:∃M:Nat,M=N*N:=⟨_,rfl⟩;rw[← hM]at hw1 hmul HG
  have hm2:(M:Int)*cn≤400000000*21:=Int.mul_le_mul (by omega) hcb.2 (by omega) (by omega)
  have hm0:0≤(M:Int)*cn:=Int.mul_nonneg (by omega) (by omega)
  obtain⟨P,hPd⟩:∃P:Int,P=(M:Int)*cn:=⟨_,rfl⟩
  have hw2:IntKind.i64.wrap ((M:Int)*cn)=P:=by rw[hPd];exact IntWalk.i64_in _ (by omega)
  rw[← hPd]at hm2 hm0 HG;clear hPd
  by_cases hP:P≤20000
  ·have H:Hid (g=true):=by unfold Hid;rw[HG.out];exact decide_eq_true ⟨hN,hP⟩
   clear hM hm2 hmul
   go_enter Tryz.func159,Tryz.ntmps159
   go_wp2_with (first|(go_at_call 122;(with_reducible refine (more_first (CN.out _)).mono ?_);rintro e w' ⟨rfl,t,rfl⟩)|(go_at_call 157;(with_reducible refine (more_call (IsCubeRules_any _ _ _ _)).mono ?_);rintro e w' ⟨rfl,t,rfl⟩)|(go_at_call 196;(with_reducible refine (more_call (CC.out _)).mono ?_);rintro e w' ⟨rfl,t,rfl⟩))
   go_ret
   exact⟨by rw[H.out]<;>rfl,HB.out.trans ((below_more _ _).mono HB.out.size)⟩
  ·have H:Hid (g=false):=by unfold Hid;rw[HG.out];exact decide_eq_false fun h=>hP h.2
   have dP:=decide_eq_false hP;clear hM hm2 hmul
   go_enter Tryz.func159,Tryz.ntmps159
   go_wp2_with (first|(go_at_call 122;(with_reducible refine (more_first (CN.out _)).mono ?_);rintro e w' ⟨rfl,t,rfl⟩)|(go_at_call 157;(with_reducible refine (more_call (IsCubeRules_any _ _ _ _)).mono ?_);rintro e w' ⟨rfl,t,rfl⟩)|(go_at_call 196;(with_reducible refine (more_call (CC.out _)).mono ?_);rintro e w' ⟨rfl,t,rfl⟩))
   go_ret
   exact⟨by rw[H.out]<;>rfl,HB.out.trans ((below_more _ _).mono HB.out.size)⟩
 ·have H:Hid (g=false):=by unfold Hid;rw[HG.out];exact decide_eq_false fun h=>hN h.1
  have hNi:¬(N:Int)≤20000:=by omega
  have dN:=decide_eq_false hNi;clear hNi
  go_enter Tryz.func159,Tryz.ntmps159
  go_wp2_with (first|(go_at_call 122;(with_reducible refine (more_first (CN.out _)).mono ?_);rintro e w' ⟨rfl,t,rfl⟩)|(go_at_call 157;(with_reducible refine (more_call (IsCubeRules_any _ _ _ _)).mono ?_);rintro e w' ⟨rfl,t,rfl⟩)|(go_at_call 196;(with_reducible refine (more_call (CC.out _)).mono ?_);rintro e w' ⟨rfl,t,rfl⟩))
  go_ret
  exact⟨by rw[H.out]<;>rfl,HB.out.trans ((below_more _ _).mono HB.out.size)⟩
set_option maxHeartbeats 2000000 in
theorem sIsMoneyGame_any (p:Int) (c h s K:Nat) (b j:Bool) (w:World) (hv:isVar p c h s=true) (hK:K≤10):
  Calls Tryz.prog 150 #[.agg #[.int .i64 p,.int .i64 c,.int .i64 h,.int .i64 s],.agg #[.int .i64 (two K),.bool b,.bool j]] w fun e w'=>e = .returned (.bool (gamB h c K))∧Below w.heap.size w w':=by
 have hvv:=isVar_yes hv
 have CN:=h_ fun (W:World)=>sBearoffCount_any p s c h W hv
 have CC:=h_ fun (W:World)=>sCubeCount_any K b j W hK
 have hr:rulB (two K)=true:=pwU_yes.2 ⟨K,hK,rfl,(two_bd hK).2⟩;have hcb:=cntC_bd hK
 have HB:Hid (Below w.heap.size w ((w.alloc (.cells #[.int .i64 p,.int .i64 c,.int .i64 h,.int .i64 s] 25)).alloc (.cells #[.int .i64 (two K),.bool b,.bool j] 59))):=((Below.refl _ _).alloc (Nat.le_refl _) _).alloc (by simp) _
 have hpos:1≤wys h c:=wys_pos _ _;have HG:Hid (gamB h c K=decide (wys h c≤20000∧((wys h c*wys h c:Nat):Int)*cntC K≤20000)):=rfl
 by_cases hmil:wys h c≤1000000
 rotate_left
 ·have H:Hid (gamB h c K=false):=by unfold Hid;rw[HG.out];exact decide_eq_false fun h=>by omega
  rw[wysC_no hmil]at CN;clear HG hpos hmil hvv hv;generalize gamB h c K=g at *;generalize two K=m at *
  go_enter Tryz.func150,Tryz.ntmps150
  go_wp2_with (first|(go_at_call 128;(with_reducible refine (more_first (CN.out _)).mono ?_);rintro e w' ⟨rfl,t,rfl⟩)|(go_at_call 147;(with_reducible refine (more_call (sIsCubeRules_any _ _ _ _)).mono ?_);rintro e w' ⟨rfl,t,rfl⟩)|(go_at_call 151;(with_reducible refine (more_call (CC.out _)).mono ?_);rintro e w' ⟨rfl,t,rfl⟩))
  go_ret
  exact⟨by rw[H.out]<;>rfl,HB.out.trans ((below_more _ _).mono HB.out.size)⟩
 rw[wysC_ok hmil]at CN;generalize gamB h c K=g at *;generalize wys h c=N at *;generalize cntC K=cn at *;generalize two K=m at *;clear hvv hv
 by_cases hN:N≤20000
 ·have hmul:N*N≤20000*20000:=Nat.mul_le_mul hN hN
  have hw1:IntKind.i64.wrap ((N:Int)*(N:Int))=((N*N:Nat):Int):=by
   rw[← Int.natCast_mul];exact IntWalk.i64_in _ (by omega)
  obtain⟨M,hM⟩:∃M:Nat,M=N*N:=⟨_,rfl⟩;rw[← hM]at hw1 hmul HG
  have hm2:(M:Int)*cn≤400000000*21:=Int.mul_le_mul (by omega) hcb.2 (by omega) (by omega)
  have hm0:0≤(M:Int)*cn:=Int.mul_nonneg (by omega) (by omega)
  obtain⟨P,hPd⟩:∃P:Int,P=(M:Int)*cn:=⟨_,rfl⟩
  have hw2:IntKind.i64.wrap ((M:Int)*cn)=P:=by rw[hPd];exact IntWalk.i64_in _ (by omega)
  rw[← hPd]at hm2 hm0 HG;clear hPd
  by_cases hP:P≤20000
  ·have H:Hid (g=true):=by unfold Hid;rw[HG.out];exact decide_eq_true ⟨hN,hP⟩
   clear hM hm2 hmul
   go_enter Tryz.func150,Tryz.ntmps150
   go_wp2_with (first|(go_at_call 128;(with_reducible refine (more_first (CN.out _)).mono ?_);rintro e w' ⟨rfl,t,rfl⟩)|(go_at_call 147;(with_reducible refine (more_call (sIsCubeRules_any _ _ _ _)).mono ?_);rintro e w' ⟨rfl,t,rfl⟩)|(go_at_call 151;(with_reducible refine (more_call (CC.out _)).mono ?_);rintro e w' ⟨rfl,t,rfl⟩))
   go_ret
   exact⟨by rw[H.out]<;>rfl,HB.out.trans ((below_more _ _).mono HB.out.size)⟩
  ·have H:Hid (g=false):=by unfold Hid;rw[HG.out];exact decide_eq_false fun h=>hP h.2
   have dP:=decide_eq_false hP;clear hM hm2 hmul
   go_enter Tryz.func150,Tryz.ntmps150
   go_wp2_with (first|(go_at_call 128;(with_reducible refine (more_first (CN.out _)).mono ?_);rintro e w' ⟨rfl,t,rfl⟩)|(go_at_call 147;(with_reducible refine (more_call (sIsCubeRules_any _ _ _ _)).mono ?_);rintro e w' ⟨rfl,t,rfl⟩)|(go_at_call 151;(with_reducible refine (more_call (CC.out _)).mono ?_);rintro e w' ⟨rfl,t,rfl⟩))
   go_ret
   exact⟨by rw[H.out]<;>rfl,HB.out.trans ((below_more _ _).mono HB.out.size)⟩
 ·have H:Hid (g=false):=by unfold Hid;rw[HG.out];exact decide_eq_false fun h=>hN h.1
  have hNi:¬(N:Int)≤20000:=by omega
  have dN:=decide_eq_false hNi;clear hNi
  go_enter Tryz.func150,Tryz.ntmps150
  go_wp2_with (first|(go_at_call 128;(with_reducible refine (more_first (CN.out _)).mono ?_);rintro e w' ⟨rfl,t,rfl⟩)|(go_at_call 147;(with_reducible refine (more_call (sIsCubeRules_any _ _ _ _)).mono ?_);rintro e w' ⟨rfl,t,rfl⟩)|(go_at_call 151;(with_reducible refine (more_call (CC.out _)).mono ?_);rintro e w' ⟨rfl,t,rfl⟩))
  go_ret
  exact⟨by rw[H.out]<;>rfl,HB.out.trans ((below_more _ _).mono HB.out.size)⟩
/-! ### positions without checkers -/
theorem sum_zero_iff {xs:List Int} (hp:∀x∈xs,0≤x):xs.sum=0↔∀x∈xs,x=0:=by
 induction xs with
 | nil=>simp
 | cons a l ih =>
   have ha := hp a (by simp)
   have hl : ∀ x ∈ l, 0 ≤ x := fun x hx => hp x (by simp [hx])
   have hs : 0 ≤ l.sum := by
     clear ih
     induction l with
     | nil => simp
     | cons b l ih2 =>
       have := hl b (by simp)
       have := ih2 (fun x hx => hp x (by rcases List.mem_cons.1 hx with h | h <;> simp [h])) (fun x hx => hl x (by simp [hx]))
       simp; omega
   simp only [List.sum_cons, List.mem_cons, forall_eq_or_imp]
   rw [← ih hl]
   omega
set_option maxHeartbeats 1000000 in
theorem l17Done_any (A:Option Addr) (n c:Nat) (xs:List Int) (w:World) (hx:SL w A n xs) (hp:∀x∈xs,0≤x) (hn:n≤2000000):
  Calls Tryz.prog 91 #[.slice A n c] w fun e w'=>e = .returned (.bool (decide (xs.sum=0)))∧w=w':=by
 have HX:=h_ hx;have HP:=h_ hp;have HS:=h_ (sum_zero_iff hp);clear hx hp
 go_enter Tryz.func91,Tryz.ntmps91
 go_wp2
 go_loop [3] (fun v3=>∃k:Nat,k≤n∧v3 = .int .i64 k∧Hid (∀j,j<k→xs.getD j 0=0)) (fun v3=>n-(intOf v3).toNat)
 case atStart=>exact⟨0,by omega,rfl,fun j h=>absurd h (by omega)⟩
 case round=>
  obtain⟨k,hk,rfl,HJ⟩:=hrel
  by_cases hlt:k<n
  ·have hki:(k:Int)<(n:Int):=by omega
   obtain⟨bl,ol,hA,hz,hcell⟩:=HX.out.2 (by omega)
   have hc:=hcell k hlt;subst hA;clear hcell;have hlen:=HX.out.1
   have hmem:xs.getD k 0∈xs:=by
    rw[List.getD_eq_getElem?_getD,List.getElem?_eq_getElem (by omega)];exact List.getElem_mem _
   have h0:=HP.out _ hmem;have HM:=h_ hmem;clear hlen hmem;generalize hx:xs.getD k 0=x at *;have HE:=h_ hx;clear hx
   by_cases hpos:0<x
   ·have H:Hid (decide (xs.sum=0)=false):=decide_eq_false fun h=>by
     have:=HS.out.1 h x HM.out
     omega
    clear HM
    go_wp2
    go_ret
    exact⟨by rw[H.out]<;>rfl,rfl⟩
   ·have hx0:x=0:=by omega
    clear HM
    go_wp2
    go_round
    case rel=>exact⟨k+1,by omega,by go_num,fun j hj=>by
     by_cases e:j=k
     ·rw[e,HE.out,hx0]
     ·exact HJ.out j (by omega)⟩
    case measure=>simp[intOf];omega
  ·have hke:k=n:=by omega
   have H:Hid (decide (xs.sum=0)=true):=decide_eq_true (HS.out.2 fun x hx=>by
    obtain⟨i,hi,rfl⟩:=List.mem_iff_getElem.1 hx
    have:=HJ.out i (by have:=HX.out.1;omega)
    rwa [List.getD_eq_getElem?_getD,List.getElem?_eq_getElem hi]at this)
   go_wp2
   go_ret
   exact⟨by rw[H.out]<;>rfl,rfl⟩
end Go.Proofs.YtgjapehpkakkbaaGreat
/- Contract of a win chance's computation, out of the program's race table. There are no conditions. -/
namespace Go.Proofs.YtgjapehpkakkbaaGreat
open Go.RowKit Ps Ra Ex Go.Maps
theorem Tryz.infoE:(Tryz.prog.info? 35).map (fun i=>(i.zero,i.size,i.bytes))=some (some (.agg #[.int .i64 0,.int .i64 0]),2,16):=by kernel_rfl
theorem allS_val {B:Int} {g:Nat×Nat→Option E} (hg:∀r x,g r=some x→Val B x) {l:List (Nat×Nat)}:∀{xs:List E},allS g l=some xs→∀x∈xs,Val B x:=by
 induction l using snoc_ind with
 | nil=>intro xs h x hx;unfold allS at h;simp at h;subst h;simp at hx
 | snoc l r ih =>
   intro xs h x hx
   rw [allS_snoc] at h
   cases hs : allS g l with
   | none => rw [hs] at h; cases h
   | some u =>
     rw [hs] at h
     cases hr : g r with
     | none => rw [hr] at h; cases h
     | some y =>
       rw [hr] at h
       simp only [Option.bind_some, Option.map_some, Option.some.injEq] at h
       subst h
       rcases List.mem_append.1 hx with hx | hx
       · exact ih hs x hx
       · have : x = y := by simpa using hx
         rw [this]; exact hg r y hr
theorem allS_stop {g:Nat×Nat→Option E} {l:List (Nat×Nat)} {k:Nat} (hk:k<l.length) {xs:List E} (hs:allS g (l.take k)=some xs) (hr:g (l.getD k (0,0))=none):allS g l=none:=by
 have h1:allS g (l.take (k+1))=none:=by rw[take_snoc_getD l (0,0) hk,allS_snoc,hs,hr];rfl
 have:=allS_none (k:=l.drop (k+1)) h1
 rwa [List.take_append_drop]at this
theorem allS_go {g:Nat×Nat→Option E} {l:List (Nat×Nat)} {k:Nat} (hk:k<l.length) {xs:List E} {x:E} (hs:allS g (l.take k)=some xs) (hr:g (l.getD k (0,0))=some x):allS g (l.take (k+1))=some (xs++[x]):=by
 rw[take_snoc_getD l (0,0) hk,allS_snoc,hs,hr];rfl
def OwnE (w:World) (base:Nat) (v:Value) (xs:List E):Prop:=w.ownsRow base 35 2 v xs.length (exC xs)
theorem OwnE.el {w:World} {base:Nat} {v:Value} {xs:List E} (h:OwnE w base v xs):∃A c,v = .slice A xs.length c∧EL (fun _=>False) w A xs.length xs∧xs.length≤c:=by
 obtain⟨A,c,hv,hs,hc⟩:=row_read (S:=fun _=>False) h (fun k hk h=>h) (by omega)
 exact⟨A,c,hv,⟨rfl,hs⟩,hc⟩
end Go.Proofs.YtgjapehpkakkbaaGreat
/- Contract of a win chance, out of the program's race table. There are no conditions. -/
namespace Go.Proofs.YtgjapehpkakkbaaGreat
open Go.RowKit Ps Ra Ex Go.Maps
end Go.Proofs.YtgjapehpkakkbaaGreat
namespace Go.Proofs.YtgjapehpkakkbaaGreat
open Go.RowKit Ps Ra Ex Go.Maps Mo
/-! ### keys -/
def mkV (a b:Int) (c:Cb):Value:=.agg #[.int .i64 a,.int .i64 b,.int .i64 c.1,.int .i64 c.2]
theorem laidOutM:laidOutB Tryz.prog=true:=by kernel_rfl
theorem keyM:Keyed Tryz.prog 183:=Keyed.of_law (deep_law_laid laidOutM (m:=3) (by omega) (of_decide_eq_true (by kernel_rfl)) (by kernel_rfl) (by kernel_rfl))
noncomputable def mkL (a b:Int) (c:Cb):Lit:=(keyOf Tryz.prog 183 (mkV a b c)).getD (.bool false)
theorem keyT:Tryz.prog.keyType 183=true:=by kernel_rfl
theorem cellsK:Tryz.prog.cellsOf 183=4:=by kernel_rfl
theorem cellsCb:Tryz.prog.cellsOf 62=2:=by kernel_rfl
theorem cells64:Tryz.prog.cellsOf 2=1:=by kernel_rfl
theorem keyOf_mk {a b:Int} {c:Cb} (ha:0≤a) (ha2:a≤1000000) (hb:0≤b) (hb2:b≤1000000) (h1:0≤c.1) (h2:c.1≤1000000) (h3:0≤c.2) (h4:c.2≤1000000):keyOf Tryz.prog 183 (mkV a b c)=some (mkL a b c):=by
 have hs:∃l,keyOf Tryz.prog 183 (mkV a b c)=some l:=by
  have w1:(Lit.int .i64 a).wf=true:=WalkArith.wf_i64 (by omega)
  have w2:(Lit.int .i64 b).wf=true:=WalkArith.wf_i64 (by omega)
  have w3:(Lit.int .i64 c.1).wf=true:=WalkArith.wf_i64 (by omega)
  have w4:(Lit.int .i64 c.2).wf=true:=WalkArith.wf_i64 (by omega)
  have hf:(mkV a b c).formed Tryz.prog 183=true:=by
   simp[Value.formed,Tryz.underlying183,cellsK,mkV]
  obtain⟨d,hd⟩:∃d,Tryz.prog.types.size+1=d+3:=⟨Tryz.prog.types.size+1-3,by have:2≤Tryz.prog.types.size:=of_decide_eq_true (by kernel_rfl);omega⟩
  have hu:=Tryz.underlying183;have hu2:=Tryz.underlying62;have hu3:=Tryz.underlying2;unfold keyOf;rw[hu]
  simp only[keyT,hf,Bool.and_self,if_true]
  rw[hd]
  simp[Program.keyLits,hu,hu2,hu3,cellsK,cellsCb,cells64,mkV,Value.cells,w1,w2,w3,w4]
  split
  ·exact⟨_,rfl⟩
  ·rename_i hn
   exact absurd (by decide) hn
 obtain⟨l,hl⟩:=hs;unfold mkL
 rw[hl];rfl
end Go.Proofs.YtgjapehpkakkbaaGreat
namespace Go.Proofs.YtgjapehpkakkbaaGreat
open Go.RowKit Ps Ra Ex Go.Maps Mo
theorem mkL_inj {a b a' b':Int} {c c':Cb} (ha:0≤a∧a≤1000000) (hb:0≤b∧b≤1000000) (hc:(0≤c.1∧c.1≤1000000)∧0≤c.2∧c.2≤1000000) (ha':0≤a'∧a'≤1000000) (hb':0≤b'∧b'≤1000000) (hc':(0≤c'.1∧c'.1≤1000000)∧0≤c'.2∧c'.2≤1000000) (h:mkL a b c=mkL a' b' c'):a=a'∧b=b'∧c=c':=by
 have h1:=keyOf_mk (c:=c) ha.1 ha.2 hb.1 hb.2 hc.1.1 hc.1.2 hc.2.1 hc.2.2;have h2:=keyOf_mk (c:=c') ha'.1 ha'.2 hb'.1 hb'.2 hc'.1.1 hc'.1.2 hc'.2.1 hc'.2.2;rw[← h]at h2;have e:=keyM.inj h1 h2;unfold mkV at e
 simp only[Value.agg.injEq,Array.mk.injEq,List.cons.injEq,Value.int.injEq,true_and,and_true]at e
 exact⟨e.1,e.2.1,Prod.ext e.2.2.1 e.2.2.2⟩
noncomputable def keysM (N:Nat):List Lit:=(List.range N).flatMap fun a=>(List.range N).flatMap fun b=>(List.range 11).flatMap fun k=>(List.range 3).map fun o=>mkL (a:Nat) (b:Nat) (two k,(o:Nat))
theorem mem_keysM {N a b:Nat} {K:Nat} {c:Cb} (ha:a<N) (hb:b<N) (hK:K≤10) (hc:CbOk K c):mkL (a:Nat) (b:Nat) c∈keysM N:=by
 obtain⟨k,h1,h2,h3⟩:=hc;obtain⟨v,o⟩:=c
 simp only at h2 h3
 unfold keysM
 refine List.mem_flatMap.2 ⟨a,List.mem_range.2 ha,List.mem_flatMap.2 ⟨b,List.mem_range.2 hb,List.mem_flatMap.2 ⟨k,List.mem_range.2 (by omega),List.mem_map.2 ⟨o.toNat,List.mem_range.2 (by omega),?_⟩⟩⟩⟩
 rw[h2,show ((o.toNat:Nat):Int)=o by omega]
theorem flatM_len {α β:Type} (l:List α) (f:α→List β) (m:Nat) (h:∀a∈l,(f a).length=m):(l.flatMap f).length=l.length*m:=by
 induction l with
 | nil=>simp
 | cons a l ih =>
   rw [List.flatMap_cons, List.length_append, h a (by simp), ih fun x hx => h x (by simp [hx]), List.length_cons, Nat.add_mul]
   omega
theorem keysM_len {N:Nat} (h:N≤141):(keysM N).length<maxLen:=by
 have e:(keysM N).length=N*(N*33):=by
  unfold keysM
  rw[flatM_len _ _ (N*33) fun a _=>by
   rw[flatM_len _ _ 33 fun b _=>by
    rw[flatM_len _ _ 3 fun k _=>by simp];simp,List.length_range],List.length_range]
 rw[e];have h1:N*33≤141*33:=Nat.mul_le_mul_right _ h;have h2:N*(N*33)≤141*(141*33):=Nat.mul_le_mul h h1;unfold maxLen
 omega
/-! ### the tables -/
structure MT where
 t:RT
 bm:Nat
 m1:Nat
 m2:Nat
 K:Nat
 bv:Bool
 jc:Bool
def MT.ru (m:MT):Ru:=⟨two m.K,m.bv⟩
def MT.S (m:MT):Nat→Prop:=fun k=>m.t.S k∨k=m.m1∨k=m.m2
def MT.cells (m:MT):List Value:=[.pointer (some ⟨m.t.bt,0,none⟩),.int .i64 (two m.K),.bool m.bv,.bool m.jc,.map (some m.m1),.map (some m.m2)]
structure MT.Ok (m:MT):Prop where
 t:m.t.Ok
 k:m.K≤10
 n:m.t.N≤141
noncomputable def MT.key (m:MT) (q r:List Int) (c:Cb):Lit:=mkL (num m.t.c q:Nat) (num m.t.c r:Nat) c
theorem Mo.CbOk.v1 {K:Nat} {c:Cb} (h:CbOk K c) (hK:K≤10):1≤c.1∧c.1≤1024∧0≤c.2∧c.2≤2:=by
 have:=h.v0;have:=(two_bd hK).2
 omega
theorem MT.num_le {m:MT} (hm:m.Ok) {q:List Int} (hq:PosP m.t.h m.t.c q):(0:Int)≤(num m.t.c q:Nat)∧((num m.t.c q:Nat):Int)≤1000000:=by
 have:=num_lt hq;have:=hm.n;unfold RT.N at this
 omega
theorem MT.key_inj {m:MT} (hm:m.Ok) {q r q' r':List Int} {c c':Cb} (hq:PosP m.t.h m.t.c q) (hr:PosP m.t.h m.t.c r) (hc:CbOk m.K c) (hq':PosP m.t.h m.t.c q') (hr':PosP m.t.h m.t.c r') (hc':CbOk m.K c') (h:m.key q r c=m.key q' r' c'):q=q'∧r=r'∧c=c':=by
 have b1:=hc.v1 hm.k;have b2:=hc'.v1 hm.k
 obtain⟨h1,h2,h3⟩:=mkL_inj (m.num_le hm hq) (m.num_le hm hr) (by omega) (m.num_le hm hq') (m.num_le hm hr') (by omega) h
 exact⟨num_inj hq hq' (by omega),num_inj hr hr' (by omega),h3⟩
theorem MT.keyOf_ok {m:MT} (hm:m.Ok) {q r:List Int} {c:Cb} (hq:PosP m.t.h m.t.c q) (hr:PosP m.t.h m.t.c r) (hc:CbOk m.K c):Go.keyOf Tryz.prog 183 (mkV (num m.t.c q:Nat) (num m.t.c r:Nat) c)=some (m.key q r c):=by
 have b1:=hc.v1 hm.k
 exact keyOf_mk (m.num_le hm hq).1 (m.num_le hm hq).2 (m.num_le hm hr).1 (m.num_le hm hr).2 (by omega) (by omega) (by omega) (by omega)
def MonM (m:MT) (w:World) (g1 g2:Lit→Option Value):Prop:=
 MapV Tryz.prog 183 w m.m1 (keysM m.t.N) g1∧MapV Tryz.prog 183 w m.m2 (keysM m.t.N) g2∧
 (∀q r c,PosP m.t.h m.t.c q→PosP m.t.h m.t.c r→CbOk m.K c→∀u,g1 (m.key q r c)=some u→u=exV (rol m.t.s m.ru q r c)∧g2 (m.key q r c)=some (.bool (rol m.t.s m.ru q r c).isNone))
structure MonI (m:MT) (T:Nat→Prop) (w:World):Prop where
 ra:RaceI m.t T w
 tb:∀j v,m.cells[j]? = some v→w.cell? ⟨m.bm,j,none⟩=some v
 nt:¬T m.bm
 s1:T m.m1
 s2:T m.m2
 d:m.m1≠m.m2
 n1:¬m.t.S m.m1
 n2:¬m.t.S m.m2
 maps:∃g1 g2,MonM m w g1 g2
section
variable {m:MT} {T T' O:Nat→Prop} {w w':World} {g1 g2:Lit→Option Value}
theorem MonM.frm (h:MonM m w g1 g2) (hf:Frm O w w') (h1:¬O m.m1) (h2:¬O m.m2):MonM m w' g1 g2:=⟨h.1.frm hf h1,h.2.1.frm hf h2,h.2.2⟩
theorem MonI.sub (h:MonI m T w):∀k,m.S k→T k:=by
 rintro k (hk|rfl|rfl)
 ·exact h.ra.sub k hk
 ·exact h.s1
 ·exact h.s2
theorem MonI.own (h:MonI m T w) (hf:Frm O w w') (hO:∀k,O k→T k) (hn:∀k,O k→¬m.S k):MonI m T w':=
 let ⟨g1,g2,hm⟩:=h.maps
 ⟨h.ra.own hf hO fun k hk hs=>hn k hk (.inl hs),fun j v hv=>hf.cell' (h.tb j v hv) fun ho=>h.nt (hO _ ho),h.nt,h.s1,h.s2,h.d,h.n1,h.n2,g1,g2,hm.frm hf (fun ho=>hn _ ho (.inr (.inl rfl))) fun ho=>hn _ ho (.inr (.inr rfl))⟩
theorem MonI.below (h:MonI m T w) (hb:Below w.heap.size w w'):MonI m T w':=h.own (Frm.of_below hb) (fun _ h=>h.elim) (fun _ h=>h.elim)
theorem MonI.alloc (h:MonI m T w) (o:Obj):MonI m T (w.alloc o):=h.below ((Below.refl _ _).alloc (Nat.le_refl _) o)
theorem MonI.drew (h:MonI m T w):MonI m T w.drew:=h.below (drw (Below.refl _ _))
theorem MonI.ltB (h:MonI m T w):m.bm<w.heap.size:=World.block_lt_of_cell? w _ (h.tb 0 _ rfl)
theorem MonI.ltS (h:MonI m T w):∀k,m.S k→k<w.heap.size:=by
 obtain⟨_,_,h1,h2,_⟩:=h.maps
 rintro k (hk|rfl|rfl)
 ·exact h.ra.ltS k hk
 ·exact h1.lt
 ·exact h2.lt
theorem MonI.set (h:MonI m T w) (hS:∀k,T' k→T k∨w.heap.size≤k) (hs:∀k,m.S k→T' k):MonI m T' w:=
 ⟨h.ra.set hS fun k hk=>hs k (.inl hk),h.tb,fun hb=>by rcases hS _ hb with h'|h';exact h.nt h';have:=h.ltB;omega,hs _ (.inr (.inl rfl)),hs _ (.inr (.inr rfl)),h.d,h.n1,h.n2,h.maps⟩
theorem MonI.less (h:MonI m T w) (hS:∀k,T' k→T k) (hs:∀k,m.S k→T' k):MonI m T' w:=h.set (fun k hk=>.inl (hS k hk)) hs
theorem MonI.stored (h:MonI m T w) {b i:Nat} (v:Value) (hT:T b) (hS:¬m.S b):MonI m T (w.setCell ⟨b,i,none⟩ v):=
 h.own (Frm.set w b i v) (fun k hk=>by rw[hk];exact hT) (fun k hk=>by rw[hk];exact hS)
theorem MonI.wide (h:MonI m T w) (n:Nat):MonI m (ownT T w n) w:=h.set (fun k hk=>hk.elim .inl fun h=>.inr h.1) (fun k hk=>.inl (h.sub k hk))
theorem MonI.race (h:MonI m T w) (hI:RaceI m.t T w') (hf:Frm m.t.S w w'):MonI m T w':=
 let ⟨g1,g2,hm⟩:=h.maps
 ⟨hI,fun j v hv=>hf.cell' (h.tb j v hv) fun ho=>h.nt (h.ra.sub _ ho),h.nt,h.s1,h.s2,h.d,h.n1,h.n2,g1,g2,hm.frm hf h.n1 h.n2⟩
theorem MonI.grew {w1:World} {v v':Value} (h:MonI m (wth T v) w) (hg:w.grownBy w1 v.ownBlock) (hat:v'.ownBlock=v.ownBlock∨v'.ownBlock=some w.heap.size) (hn:∀k,some k=v.ownBlock→¬m.S k):MonI m (wth T v') w1:=by
 have h1:=h.set (T':=fun k=>wth T v k∨wth T v' k) (fun k hk=>hk.elim .inl (wth_new hat k)) (fun k hk=>.inl (h.sub k hk))
 have h2:=h1.own (Frm.of_grown hg) (fun k hk=>.inl (.inr hk.symm)) hn
 exact h2.less (fun k hk=>.inr hk) (fun k hk=>by
  have h3:=h.sub k hk
  rcases h3 with h3|h3
  ·exact .inl h3
  ·exact absurd hk (hn k h3.symm))
end
theorem frm_M {m:MT} {w w':World} {b:Nat} (hg:w.grownBy w' (some b)) (hb:m.S b):Frm m.S w w':=(Frm.of_grown hg).mono fun k hk=>by injection hk with hk;rw[hk];exact hb
theorem frm_R {m:MT} {w w':World} (hf:Frm m.t.S w w'):Frm m.S w w':=hf.mono fun k hk=>.inl hk
def RetMo (m:MT) (T:Nat→Prop) (w:World) (o:Option E) (e:Ending) (w':World):Prop:=e = .returned (.tuple #[exV o,.bool o.isSome])∧MonI m T w'∧Frm m.S w w'
theorem RetMo.mkY {m:MT} {T:Nat→Prop} {w w':World} {o:Option E} {n:Int} {d:Nat} (ho:o=some ⟨n,d⟩) (h1:MonI m T w') (h2:Frm m.S w w'):RetMo m T w o (.returned (.tuple #[.agg #[.int .i64 n,.int .i64 (d:Int)],.bool true])) w':=by subst ho;exact⟨rfl,h1,h2⟩
theorem RetMo.mkN {m:MT} {T:Nat→Prop} {w w':World} {o:Option E} (ho:o=none) (h1:MonI m T w') (h2:Frm m.S w w'):RetMo m T w o (.returned (.tuple #[.agg #[.int .i64 0,.int .i64 0],.bool false])) w':=by subst ho;exact⟨rfl,h1,h2⟩
def RetBv (m:MT) (T:Nat→Prop) (w:World) (o:Option (E×Bool)) (e:Ending) (w':World):Prop:=MonI m T w'∧Frm m.S w w'∧match o with
 | none=>∃a:Int,e = .returned (.tuple #[.agg #[.int .i64 0,.int .i64 0],.int .i64 a,.bool false])
 | some (x,b)=>e = .returned (.tuple #[.agg #[.int .i64 x.num,.int .i64 (x.depth:Int)],.int .i64 (if b then 4 else 3),.bool true])
def RetMB (m:MT) (T:Nat→Prop) (w:World) (l:List (List Int)) (o:Option (Nat×Nat×E)) (e:Ending) (w':World):Prop:=
 MonI m T w'∧Frm m.S w w'∧match o with
  | none=>e = .returned (.tuple #[.slice none 0 0,.agg #[.int .i64 0,.int .i64 0],.bool false])
  | some (k,a,x)=>∃v,e = .returned (.tuple #[v,.agg #[.int .i64 x.num,.int .i64 (x.depth:Int)],.bool true])∧BestV T w' m.t.h k a l v
def MonC (m:MT) (f:FuncId) (own other:List Int) (c:Cb) (R:(Nat→Prop)→World→Ending→World→Prop):Prop:=∀(T:Nat→Prop) (A B:Option Addr) (ca cb:Nat) (w:World),(∀k,w.heap.size≤k→¬T k)→MonI m T w→SQ T w A m.t.h own→m.t.h≤ca→SQ T w B m.t.h other→m.t.h≤cb→
 Calls Tryz.prog f #[.pointer (some ⟨m.bm,0,none⟩),.slice A m.t.h ca,.slice B m.t.h cb,.agg #[.int .i64 c.1,.int .i64 c.2]] w (R T w)
def RolC (m:MT) (own other:List Int) (c:Cb):Prop:=MonC m 99 own other c fun T w=>RetMo m T w (rol m.t.s m.ru own other c)
def EqvC (m:MT) (own other:List Int) (c:Cb):Prop:=MonC m 96 own other c fun T w=>RetMo m T w (eqv m.t.s m.ru own other c)
noncomputable def dbl (s:Nat) (r:Ru) (own other:List Int) (c:Cb):Option (E×Int):=dblG (sq s) r (rol s r) own other c
noncomputable def bev (s:Nat) (r:Ru) (own other:List Int) (c:Cb):Option (E×Bool):=bevG (sq s) r (rol s r) own other c
def DblC (m:MT) (own other:List Int) (c:Cb):Prop:=MonC m 102 own other c fun T w=>RetMo m T w ((dbl m.t.s m.ru own other c).map fun y=>y.1)
def BevC (m:MT) (own other:List Int) (c:Cb):Prop:=MonC m 164 own other c fun T w=>RetBv m T w (bev m.t.s m.ru own other c)
end Go.Proofs.YtgjapehpkakkbaaGreat
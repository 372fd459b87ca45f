/- Part of one proof. There are no conditions. -/
import Derived.Test.YtkaiilmgemaljaaGreatRM4
import Derived.Test.YtkaiilmgemaljaaGreatRZs
import Derived.Test.YtkaiilmgemaljaaGreatRZc
import Derived.Test.YtkaiilmgemaljaaGreatRZm
import Derived.IntWalk
set_option maxHeartbeats 0
set_option linter.unusedVariables false
set_option linter.unusedSimpArgs false
set_option maxRecDepth 10000
namespace Go.Proofs.YtkaiilmgemaljaaGreat
open Go.RowKit Mo Ps
def cubL:Nat->List Cb
 | 0=>[(1,0)]
 | K+1=>cubL K++[(two (K+1),1),(two (K+1),2)]
theorem eX:∀K,(cubL K).length=1+2*K
 | 0=>rfl
 | K+1=>by simp[cubL,eX K];omega
theorem iA {K:Nat} {c:Cb} (h:CbOk K c):c∈cubL K:=by
 obtain⟨k,h1,h2,h3⟩:=h;obtain⟨v,o⟩:=c
 simp only at h2 h3
 induction K with
 | zero =>
   obtain rfl : k = 0 := by omega
   rcases h3 with ⟨_, h4⟩ | ⟨h3, _⟩
   · subst h4 h2; simp [cubL]; rfl
   · omega
 | succ K ih =>
   rw [cubL, List.mem_append]
   by_cases e : k = K + 1
   · subst e
     rcases h3 with ⟨h3, _⟩ | ⟨_, h4 | h4⟩
     · omega
     · right; subst h2 h4; simp
     · right; subst h2 h4; simp
   · exact .inl (ih (by omega))
def fIdx:List Cb->Cb->Nat
 | [],_=>0
 | a::l,c=>if a=c then 0 else fIdx l c+1
theorem gt:∀{l:List Cb} {c:Cb},c∈l->fIdx l c<l.length/\l.getD (fIdx l c) (0,0)=c
 | [],c,h=>by simp at h
 | a :: l, c, h => by
   unfold fIdx
   by_cases e : a = c
   · rw [if_pos e]; simp [e]
   · rw [if_neg e]
     have hm : c ∈ l := by
       rcases List.mem_cons.1 h with h | h
       · exact absurd h.symm e
       · exact h
     obtain ⟨h1, h2⟩ := gt hm
     refine ⟨by simp; omega, by simpa using h2⟩
theorem fIdx_at:∀{l:List Cb} {c:Cb} {k:Nat},k<l.length->(∀j,j<k->l.getD j (0,0)≠c)->l.getD k (0,0)=c->fIdx l c=k
 | [],c,k,h,_,_=>by simp at h
 | a :: l, c, 0, h, h1, h2 => by
   unfold fIdx
   rw [if_pos (by simpa using h2)]
 | a :: l, c, k + 1, h, h1, h2 => by
   unfold fIdx
   have h0 := h1 0 (by omega)
   rw [if_neg (by simpa using h0), fIdx_at (k := k) (by simpa using h) (fun j hj => by have := h1 (j + 1) (by omega); simpa using this) (by simpa using h2)]
def cIdx (K:Nat) (c:Cb):Nat:=fIdx (cubL K) c
theorem kP {K:Nat} {c:Cb} (h:CbOk K c):cIdx K c<1+2*K:=by rw[<- eX];exact (gt (iA h)).1
theorem cIdx_inj {K:Nat} {c c':Cb} (h:CbOk K c) (h':CbOk K c') (e:cIdx K c=cIdx K c'):c=c':=by
 have h1:=(gt (iA h)).2;have h2:=(gt (iA h')).2;unfold cIdx at e;rw[e]at h1
 exact h1.symm.trans h2
def cbC (l:List Cb):List Value:=l.flatMap fun c=>[.int .i64 c.1,.int .i64 c.2]
theorem cbC_app (l k:List Cb):cbC (l++k)=cbC l++cbC k:=by simp[cbC]
theorem cbC_get:∀(xs:List Cb) (k:Nat),k<xs.length->(cbC xs).getD (k*2) undef = .int .i64 (xs.getD k (0,0)).1/\(cbC xs).getD (k*2+1) undef = .int .i64 (xs.getD k (0,0)).2
 | [],k,h=>by simp at h
 | r::rs,0,_=>by simp[cbC]
 | r :: rs, k + 1, h => by
   have := cbC_get rs k (by simpa using h)
   have e : cbC (r :: rs) = .int .i64 r.1 :: .int .i64 r.2 :: cbC rs := rfl
   rw [e, show (k + 1) * 2 = k * 2 + 1 + 1 by omega]
   simpa using this
theorem Tryz.infoC:(Tryz.prog.info? 55).map (fun i=>(i.zero,i.size,i.bytes))=some (some (.agg #[.int .i64 0,.int .i64 0]),2,16):=by kernel_rfl
theorem four_new (w:World) (a b c d:Int) (e:TypeId):∀j u,[Value.int .i64 a,.int .i64 b,.int .i64 c,.int .i64 d][j]? = some u->(w.alloc (.cells #[.int .i64 a,.int .i64 b,.int .i64 c,.int .i64 d] e)).cell? ((⟨w.heap.size,0,none⟩:Addr).add j)=some u:=by
 intro j u hu
 rw[Addr.add_lit];have hj:j<4:=(List.getElem?_eq_some_iff.1 hu).1
 obtain rfl|rfl|rfl|rfl:j=0\/j=1\/j=2\/j=3:=by omega
 all_goals (simp at hu;subst hu;simp[go_sem])
theorem four_cells (a b c d:Int):∀u∈[Value.int .i64 a,.int .i64 b,.int .i64 c,.int .i64 d],u.oneCell'=true:=fun u hu=>by
 simp at hu
 rcases hu with rfl|rfl|rfl|rfl<;>rfl
def OwnCb (w:World) (base:Nat) (v:Value) (l:List Cb):Prop:=w.ownsRow base 55 2 v l.length (cbC l)
def RetCb (w:World) (l:List Cb) (e:Ending) (w':World):Prop:=∃v,e = .returned v/\OwnCb w' w.heap.size v l/\Below w.heap.size w w'
theorem two_up {k:Nat} (h:k<=11):1<=two k/\two k<=2048:=⟨dr k,bP (b:=11) h⟩
theorem two_le {k K:Nat}:two k<=two K↔k<=K:=by
 constructor
 ·intro h
  apply Classical.byContradiction
  intro hn
  have:=bP (show K+1<=k by omega)
  have:=dr K;rw[de]at *
  omega
 ·exact bP
theorem hZ (K:Nat) (b j:Bool) (w:World) (hK:K<=10):
  Calls Tryz.prog 231 #[.agg #[.int .i64 (two K),.bool b,.bool j]] w (RetCb w (cubL K)):=by
 obtain⟨i0,hi,hz0,hz1,hz2⟩:=info_parts Tryz.infoC;obtain⟨m,hm⟩:∃m,m=two K:=⟨_,rfl⟩;have HM:=h_ hm
 have hmb:1<=m/\m<=1024:=by rw[hm];exact gU hK
 rw[<- hm];clear hm
 have HF0:=h_ (((Fr.start w).allocT (by simp) #[.int .i64 m,.bool b,.bool j] 53))
 have HF:Hid (Fr w ((w.alloc (.cells #[.int .i64 m,.bool b,.bool j] 53)).alloc (.cells #[.int .i64 1,.int .i64 0] 55)) [[.int .i64 m,.bool b,.bool j]]):=HF0.out.alloc _
 have HO:Hid (OwnCb ((w.alloc (.cells #[.int .i64 m,.bool b,.bool j] 53)).alloc (.cells #[.int .i64 1,.int .i64 0] 55)) (w.heap.size+1) (.slice (some ⟨w.heap.size+1,0,none⟩) 1 1) (cubL 0)):=by
  have:=World.ownsRow_lit (e:=55) (size:=2) (base:=w.heap.size+1) (w.alloc (.cells #[.int .i64 m,.bool b,.bool j] 53)) #[.int .i64 1,.int .i64 0] 1 (by simp) (by unfold maxLen;omega) rfl
  have e:(w.alloc (.cells #[.int .i64 m,.bool b,.bool j] 53)).heap.size=w.heap.size+1:=by simp
  rw[e]at this
  exact this
 clear HF0
 go_enter Tryz.func231,Tryz.ntmps231
 go_wp2_with (fail)
 go_loopw [3,4] (fun v va wr=>∃(k:Nat) (p:Int),k<=K/\va = .int .i64 p/\Hid (p=two (k+1))/\Hid (OwnCb wr (w.heap.size+1) v (cubL k))/\Hid (Fr w wr [[.int .i64 m,.bool b,.bool j]])) (fun _ va _=>(2048-intOf va).toNat)
 case atStart=>exact⟨0,2,Nat.zero_le _,rfl,rfl,HO.out,HF.out⟩
 case round=>
  obtain⟨k,p,hk,rfl,HP,HOa,HFa⟩:=hrel;clear HO HF
  have hpb:1<=p/\p<=2048:=by rw[HP.out];exact two_up (by omega)
  have z0:=HFa.out.l0 (by simp)
  have c00:=HFa.out.c0 0 rfl;have f00:=HFa.out.f0 0 rfl;have c01:=HFa.out.c0 1 rfl;have f01:=HFa.out.f0 1 rfl;have c02:=HFa.out.c0 2 rfl;have f02:=HFa.out.f0 2 rfl
  by_cases hlt:k<K
  ·have hple:p<=m:=by rw[HP.out,HM.out];exact bP (by omega)
   have HL:Hid ((cubL k).length<=21):=by unfold Hid;rw[eX];omega
   go_wp2_with (at_builtin;refine wpList_append_own _ rfl _ _ 233 rfl (w.heap.size+1) 55 i0 (.agg #[.int .i64 0,.int .i64 0]) 2 16 Tryz.underlying233 hi hz0 hz1 hz2 rfl (by decide) _ _ _ rfl (row_alloc HOa.out _) ⟨wr.heap.size,0,none⟩ 2 2 [.int .i64 p,.int .i64 1,.int .i64 p,.int .i64 2] rfl rfl (four_new _ _ _ _ _ _) (four_cells _ _ _ _) (by have:=HL.out;unfold maxLen;omega) (by have:=HL.out;omega) (by have:=HFa.out.z;simp at this;simp;omega) ?_;intro v' w1 hown hgrow _)
   have HF2:=h_ ((HFa.out.alloc _).grow hgrow (row_alloc HOa.out _) (by simp))
   have HO2:Hid (OwnCb w1 (w.heap.size+1) v' (cubL (k+1))):=by
    unfold Hid OwnCb
    rw[show cubL (k+1)=cubL k++[(two (k+1),1),(two (k+1),2)] from rfl,cbC_app,List.length_append,<- HP.out]
    exact hown
   clear hown hgrow
   have HP2:Hid (2*p=two (k+1+1)):=by unfold Hid;rw[de (k+1),<- HP.out]
   go_wp2_with (fail)
   go_roundw
   case rel=>exact⟨k+1,2*p,by omega,rfl,HP2.out,HO2.out,HF2.out⟩
   case measure=>(simp[intOf])<;>omega
  ·have hke:k=K:=by omega
   have hple:¬p<=m:=by rw[HP.out,HM.out,two_le];omega
   subst hke
   have HR:Hid (RetCb w (cubL k) (.returned _) wr):=⟨_,rfl,cB HOa.out (by omega),HFa.out.b⟩
   go_wp2_with (fail)
   go_ret
   exact HR.out
theorem OwnCb.at {w:World} {base:Nat} {v:Value} {l:List Cb} (h:OwnCb w base v l) (hl:0<l.length):∃b c,v = .slice (some ⟨b,0,none⟩) l.length c/\l.length<=c/\b<w.heap.size/\base<=b/\∀k,k<l.length->w.cell? ⟨b,k*2,none⟩=some (.int .i64 (l.getD k (0,0)).1)/\w.cell? ⟨b,k*2+1,none⟩=some (.int .i64 (l.getD k (0,0)).2):=by
 obtain⟨A,c,hv,hs,hc⟩:=cJ (S:=fun _=>False) h (fun k hk=>id) (by omega)
 obtain⟨b,off,hA,hlt,_,hcell⟩:=hs.2 hl
 have h0:off=0:=by
  subst hA
  rcases h.2 with⟨h1,_⟩|⟨g,cap,cur,h1,_⟩
  ·rw[hv]at h1;cases h1
  ·rw[hv]at h1;injection h1 with h1;injection h1 with h1;injection h1
 subst h0;subst hA
 have hlo:base<=b:=(World.ownsRow.lt h b (by rw[hv];rfl)).1
 refine⟨b,c,hv,hc,hlt,hlo,fun k hk=>?_⟩
 obtain⟨e1,e2⟩:=cbC_get l k hk
 have d1:=hcell (k*2) (by omega)
 have d2:=hcell (k*2+1) (by omega)
 rw[Nat.zero_add]at d1 d2
 exact⟨by rw[d1,e1],by rw[d2,e2]⟩
def cntC (K:Nat):Int:=1+2*(K:Int)
theorem du (K:Nat) (b j:Bool) (w:World) (hK:K<=10):
  Calls Tryz.prog 191 #[.agg #[.int .i64 (two K),.bool b,.bool j]] w fun e w'=>e = .returned (.int .i64 (cntC K))/\Below w.heap.size w w':=by
 have HC:=h_ fun (W:World)=>hZ K b j W hK
 have hr:rulB (two K)=true:=cG.2 ⟨K,hK,rfl,(gU hK).2⟩;have HB:Hid (Below w.heap.size w (w.alloc (.cells #[.int .i64 (two K),.bool b,.bool j] 53))):=(Below.refl _ _).alloc (Nat.le_refl _) _
 have HE:Hid (((cubL K).length:Int)=cntC K):=by unfold Hid cntC;rw[eX];omega
 have HL:Hid (0<(cubL K).length):=by unfold Hid;rw[eX];omega
 generalize two K=m at *
 go_enter Tryz.func191,Tryz.ntmps191
 go_wp2_with (go_at_call 188;refine (more_first (sIsCubeRules_any _ _ _ _)).mono ?_;rintro e w' ⟨rfl,t,rfl⟩)
 refine (HC.out _).mono ?_
 rintro e w1 ⟨v,rfl,ho,hb⟩
 obtain⟨bb,c,rfl,_⟩:=ho.at HL.out;have HB2:Hid (Below w.heap.size w w1):=(HB.out.trans ((aa _ t).mono HB.out.size)).trans (hb.mono (HB.out.trans ((aa _ t).mono HB.out.size)).size);clear ho hb HC
 go_wp2_with (fail)
 go_ret
 exact⟨by rw[<- HE.out]<;>rfl,HB2.out⟩
theorem cntC_bd {K:Nat} (h:K<=10):1<=cntC K/\cntC K<=21:=by unfold cntC;omega
theorem kT (K:Nat) (b j:Bool) (w:World) (hK:K<=10):
  Calls Tryz.prog 229 #[.agg #[.int .i64 (two K),.bool b,.bool j]] w fun e w'=>e = .returned (.int .i64 (cntC K))/\Below w.heap.size w w':=by
 have hr:rulB (two K)=true:=cG.2 ⟨K,hK,rfl,(gU hK).2⟩;have HB:Hid (Below w.heap.size w (w.alloc (.cells #[.int .i64 (two K),.bool b,.bool j] 53))):=(Below.refl _ _).alloc (Nat.le_refl _) _;obtain⟨m,hm⟩:∃m,m=two K:=⟨_,rfl⟩;have HM:=h_ hm;rw[<- hm]at hr HB ⊢;clear hm
 have HE:Hid (∀n:Int,n=1+2*(K:Int)->n=cntC K):=fun n h=>h
 go_enter Tryz.func229,Tryz.ntmps229
 go_wp2_with (go_at_call 186;refine (more_first (IsCubeRules_any _ _ _ _)).mono ?_;rintro e w' ⟨rfl,t,rfl⟩)
 go_loop [3,4] (fun va vb=>∃(k:Nat) (p:Int),k<=K/\va = .int .i64 (1+2*((K:Int)-k))/\vb = .int .i64 p/\Hid (p=two k)) (fun _ vb=>(intOf vb).toNat)
 case atStart=>exact⟨K,m,Nat.le_refl _,by rw[show (1:Int)+2*((K:Int)-K)=1 by omega],rfl,HM.out⟩
 case round=>
  obtain⟨k,p,hk,rfl,rfl,HP⟩:=hrel
  by_cases h0:k=0
  ·have hp:p=1:=by rw[HP.out,h0];rfl
   have hgt:¬1<p:=by omega
   have HN:Hid (1+2*((K:Int)-(k:Int))=cntC K):=HE.out _ (by omega)
   clear hp
   go_wp2_with (fail)
   go_ret
   exact⟨by first|rfl|(rw[HN.out]<;>rfl),HB.out.trans ((aa _ _).mono HB.out.size)⟩
  ·obtain⟨k',rfl⟩:∃k',k=k'+1:=⟨k-1,by omega⟩
   have hp2:p=2*two k':=by rw[HP.out,de]
   have hpos:=dr k'
   have hp1:1<p:=by omega
   have hp4:p<=2048:=by rw[HP.out];exact (two_up (by omega)).2
   have HQ:Hid (p / 2=two k'):=by unfold Hid;omega
   clear hp2 hpos
   go_wp2_with (fail)
   go_round
   case rel=>exact⟨k',p / 2,by omega,by first|rfl|(congr 1;omega),by first|rfl|go_num,HQ.out⟩
   case measure=>(simp[intOf])<;>omega
def gamB (h c:Nat) (K:Nat):Bool:=decide (wys h c<=20000/\(wys h c*wys h c:Nat)*cntC K<=20000)
theorem eV {h c K:Nat} (H:gamB h c K=true):wys h c<=141/\((wys h c*wys h c:Nat):Int)*cntC K<=20000:=by
 have:=of_decide_eq_true H
 refine⟨?_,this.2⟩
 have h1:((wys h c*wys h c:Nat):Int)*1<=((wys h c*wys h c:Nat):Int)*cntC K:=Int.mul_le_mul_of_nonneg_left (by unfold cntC;omega) (by omega)
 apply Classical.byContradiction
 intro hn
 have h2:142*142<=wys h c*wys h c:=Nat.mul_le_mul (by omega) (by omega)
 omega
theorem jj (p:Int) (c h s K:Nat) (b j:Bool) (w:World) (hv:isVar p c h s=true) (hK:K<=10):
  Calls Tryz.prog 187 #[.agg #[.int .i64 p,.int .i64 c,.int .i64 h,.int .i64 s],.agg #[.int .i64 (two K),.bool b,.bool j]] w fun e w'=>e = .returned (.bool (gamB h c K))/\Below w.heap.size w w':=by
 have hvv:=aj hv
 have CN:=h_ fun (W:World)=>ej p s c h W hv
 have CC:=h_ fun (W:World)=>kT K b j W hK
 have hr:rulB (two K)=true:=cG.2 ⟨K,hK,rfl,(gU hK).2⟩;have hcb:=cntC_bd hK
 have HB:Hid (Below w.heap.size w ((w.alloc (.cells #[.int .i64 p,.int .i64 c,.int .i64 h,.int .i64 s] 25)).alloc (.cells #[.int .i64 (two K),.bool b,.bool j] 53))):=((Below.refl _ _).alloc (Nat.le_refl _) _).alloc (by simp) _
 have hpos:1<=wys h c:=fq _ _;have HG:Hid (gamB h c K=decide (wys h c<=20000/\((wys h c*wys h c:Nat):Int)*cntC K<=20000)):=rfl
 by_cases hmil:wys h c<=1000000
 rotate_left
 ·have H:Hid (gamB h c K=false):=by unfold Hid;rw[HG.out];exact decide_eq_false fun h=>by omega
  rw[gB hmil]at CN;clear HG hpos hmil hvv hv;generalize gamB h c K=g at *;generalize two K=m at *
  go_enter Tryz.func187,Tryz.ntmps187
  go_wp2_with (first|(go_at_call 164;(with_reducible refine (more_first (CN.out _)).mono ?_);rintro e w' ⟨rfl,t,rfl⟩)|(go_at_call 186;(with_reducible refine (more_call (IsCubeRules_any _ _ _ _)).mono ?_);rintro e w' ⟨rfl,t,rfl⟩)|(go_at_call 229;(with_reducible refine (more_call (CC.out _)).mono ?_);rintro e w' ⟨rfl,t,rfl⟩))
  go_ret
  exact⟨by rw[H.out]<;>rfl,HB.out.trans ((aa _ _).mono HB.out.size)⟩
 rw[cO hmil]at CN;generalize gamB h c K=g at *;generalize wys h c=N at *;generalize cntC K=cn at *;generalize two K=m at *;clear hvv hv
 by_cases hN:N<=20000
 ·have hmul:N*N<=20000*20000:=Nat.mul_le_mul hN hN
  have hw1:IntKind.i64.wrap ((N:Int)*(N:Int))=((N*N:Nat):Int):=by
   rw[<- Int.natCast_mul];exact IntWalk.i64_in _ (by omega)
  obtain⟨M,hM⟩:∃M:Nat,M=N*N:=⟨_,rfl⟩;rw[<- hM]at hw1 hmul HG
  have hm2:(M:Int)*cn<=400000000*21:=Int.mul_le_mul (by omega) hcb.2 (by omega) (by omega)
  have hm0:0<=(M:Int)*cn:=Int.mul_nonneg (by omega) (by omega)
  obtain⟨P,hPd⟩:∃P:Int,P=(M:Int)*cn:=⟨_,rfl⟩
  have hw2:IntKind.i64.wrap ((M:Int)*cn)=P:=by rw[hPd];exact IntWalk.i64_in _ (by omega)
  rw[<- hPd]at hm2 hm0 HG;clear hPd
  by_cases hP:P<=20000
  ·have H:Hid (g=true):=by unfold Hid;rw[HG.out];exact decide_eq_true ⟨hN,hP⟩
   clear hM hm2 hmul
   go_enter Tryz.func187,Tryz.ntmps187
   go_wp2_with (first|(go_at_call 164;(with_reducible refine (more_first (CN.out _)).mono ?_);rintro e w' ⟨rfl,t,rfl⟩)|(go_at_call 186;(with_reducible refine (more_call (IsCubeRules_any _ _ _ _)).mono ?_);rintro e w' ⟨rfl,t,rfl⟩)|(go_at_call 229;(with_reducible refine (more_call (CC.out _)).mono ?_);rintro e w' ⟨rfl,t,rfl⟩))
   go_ret
   exact⟨by rw[H.out]<;>rfl,HB.out.trans ((aa _ _).mono HB.out.size)⟩
  ·have H:Hid (g=false):=by unfold Hid;rw[HG.out];exact decide_eq_false fun h=>hP h.2
   have dP:=decide_eq_false hP;clear hM hm2 hmul
   go_enter Tryz.func187,Tryz.ntmps187
   go_wp2_with (first|(go_at_call 164;(with_reducible refine (more_first (CN.out _)).mono ?_);rintro e w' ⟨rfl,t,rfl⟩)|(go_at_call 186;(with_reducible refine (more_call (IsCubeRules_any _ _ _ _)).mono ?_);rintro e w' ⟨rfl,t,rfl⟩)|(go_at_call 229;(with_reducible refine (more_call (CC.out _)).mono ?_);rintro e w' ⟨rfl,t,rfl⟩))
   go_ret
   exact⟨by rw[H.out]<;>rfl,HB.out.trans ((aa _ _).mono HB.out.size)⟩
 ·have H:Hid (g=false):=by unfold Hid;rw[HG.out];exact decide_eq_false fun h=>hN h.1
  have hNi:¬(N:Int)<=20000:=by omega
  have dN:=decide_eq_false hNi;clear hNi
  go_enter Tryz.func187,Tryz.ntmps187
  go_wp2_with (first|(go_at_call 164;(with_reducible refine (more_first (CN.out _)).mono ?_);rintro e w' ⟨rfl,t,rfl⟩)|(go_at_call 186;(with_reducible refine (more_call (IsCubeRules_any _ _ _ _)).mono ?_);rintro e w' ⟨rfl,t,rfl⟩)|(go_at_call 229;(with_reducible refine (more_call (CC.out _)).mono ?_);rintro e w' ⟨rfl,t,rfl⟩))
  go_ret
  exact⟨by rw[H.out]<;>rfl,HB.out.trans ((aa _ _).mono HB.out.size)⟩
theorem il (p:Int) (c h s K:Nat) (b j:Bool) (w:World) (hv:isVar p c h s=true) (hK:K<=10):
  Calls Tryz.prog 190 #[.agg #[.int .i64 p,.int .i64 c,.int .i64 h,.int .i64 s],.agg #[.int .i64 (two K),.bool b,.bool j]] w fun e w'=>e = .returned (.bool (gamB h c K))/\Below w.heap.size w w':=by
 have hvv:=aj hv
 have CN:=h_ fun (W:World)=>bS p s c h W hv
 have CC:=h_ fun (W:World)=>du K b j W hK
 have hr:rulB (two K)=true:=cG.2 ⟨K,hK,rfl,(gU hK).2⟩;have hcb:=cntC_bd hK
 have HB:Hid (Below w.heap.size w ((w.alloc (.cells #[.int .i64 p,.int .i64 c,.int .i64 h,.int .i64 s] 25)).alloc (.cells #[.int .i64 (two K),.bool b,.bool j] 53))):=((Below.refl _ _).alloc (Nat.le_refl _) _).alloc (by simp) _
 have hpos:1<=wys h c:=fq _ _;have HG:Hid (gamB h c K=decide (wys h c<=20000/\((wys h c*wys h c:Nat):Int)*cntC K<=20000)):=rfl
 by_cases hmil:wys h c<=1000000
 rotate_left
 ·have H:Hid (gamB h c K=false):=by unfold Hid;rw[HG.out];exact decide_eq_false fun h=>by omega
  rw[gB hmil]at CN;clear HG hpos hmil hvv hv;generalize gamB h c K=g at *;generalize two K=m at *
  go_enter Tryz.func190,Tryz.ntmps190
  go_wp2_with (first|(go_at_call 140;(with_reducible refine (more_first (CN.out _)).mono ?_);rintro e w' ⟨rfl,t,rfl⟩)|(go_at_call 188;(with_reducible refine (more_call (sIsCubeRules_any _ _ _ _)).mono ?_);rintro e w' ⟨rfl,t,rfl⟩)|(go_at_call 191;(with_reducible refine (more_call (CC.out _)).mono ?_);rintro e w' ⟨rfl,t,rfl⟩))
  go_ret
  exact⟨by rw[H.out]<;>rfl,HB.out.trans ((aa _ _).mono HB.out.size)⟩
 rw[cO hmil]at CN;generalize gamB h c K=g at *;generalize wys h c=N at *;generalize cntC K=cn at *;generalize two K=m at *;clear hvv hv
 by_cases hN:N<=20000
 ·have hmul:N*N<=20000*20000:=Nat.mul_le_mul hN hN
  have hw1:IntKind.i64.wrap ((N:Int)*(N:Int))=((N*N:Nat):Int):=by
   rw[<- Int.natCast_mul];exact IntWalk.i64_in _ (by omega)
  obtain⟨M,hM⟩:∃M:Nat,M=N*N:=⟨_,rfl⟩;rw[<- hM]at hw1 hmul HG
  have hm2:(M:Int)*cn<=400000000*21:=Int.mul_le_mul (by omega) hcb.2 (by omega) (by omega)
  have hm0:0<=(M:Int)*cn:=Int.mul_nonneg (by omega) (by omega)
  obtain⟨P,hPd⟩:∃P:Int,P=(M:Int)*cn:=⟨_,rfl⟩
  have hw2:IntKind.i64.wrap ((M:Int)*cn)=P:=by rw[hPd];exact IntWalk.i64_in _ (by omega)
  rw[<- hPd]at hm2 hm0 HG;clear hPd
  by_cases hP:P<=20000
  ·have H:Hid (g=true):=by unfold Hid;rw[HG.out];exact decide_eq_true ⟨hN,hP⟩
   clear hM hm2 hmul
   go_enter Tryz.func190,Tryz.ntmps190
   go_wp2_with (first|(go_at_call 140;(with_reducible refine (more_first (CN.out _)).mono ?_);rintro e w' ⟨rfl,t,rfl⟩)|(go_at_call 188;(with_reducible refine (more_call (sIsCubeRules_any _ _ _ _)).mono ?_);rintro e w' ⟨rfl,t,rfl⟩)|(go_at_call 191;(with_reducible refine (more_call (CC.out _)).mono ?_);rintro e w' ⟨rfl,t,rfl⟩))
   go_ret
   exact⟨by rw[H.out]<;>rfl,HB.out.trans ((aa _ _).mono HB.out.size)⟩
  ·have H:Hid (g=false):=by unfold Hid;rw[HG.out];exact decide_eq_false fun h=>hP h.2
   have dP:=decide_eq_false hP;clear hM hm2 hmul
   go_enter Tryz.func190,Tryz.ntmps190
   go_wp2_with (first|(go_at_call 140;(with_reducible refine (more_first (CN.out _)).mono ?_);rintro e w' ⟨rfl,t,rfl⟩)|(go_at_call 188;(with_reducible refine (more_call (sIsCubeRules_any _ _ _ _)).mono ?_);rintro e w' ⟨rfl,t,rfl⟩)|(go_at_call 191;(with_reducible refine (more_call (CC.out _)).mono ?_);rintro e w' ⟨rfl,t,rfl⟩))
   go_ret
   exact⟨by rw[H.out]<;>rfl,HB.out.trans ((aa _ _).mono HB.out.size)⟩
 ·have H:Hid (g=false):=by unfold Hid;rw[HG.out];exact decide_eq_false fun h=>hN h.1
  have hNi:¬(N:Int)<=20000:=by omega
  have dN:=decide_eq_false hNi;clear hNi
  go_enter Tryz.func190,Tryz.ntmps190
  go_wp2_with (first|(go_at_call 140;(with_reducible refine (more_first (CN.out _)).mono ?_);rintro e w' ⟨rfl,t,rfl⟩)|(go_at_call 188;(with_reducible refine (more_call (sIsCubeRules_any _ _ _ _)).mono ?_);rintro e w' ⟨rfl,t,rfl⟩)|(go_at_call 191;(with_reducible refine (more_call (CC.out _)).mono ?_);rintro e w' ⟨rfl,t,rfl⟩))
  go_ret
  exact⟨by rw[H.out]<;>rfl,HB.out.trans ((aa _ _).mono HB.out.size)⟩
theorem sum_zero_iff {xs:List Int} (hp:∀x∈xs,0<=x):xs.sum=0↔∀x∈xs,x=0:=by
 induction xs with
 | nil=>simp
 | cons a l ih =>
   have ha := hp a (by simp)
   have hl : ∀ x ∈ l, 0 <= x := fun x hx => hp x (by simp [hx])
   have hs : 0 <= l.sum := by
     clear ih
     induction l with
     | nil => simp
     | cons b l ih2 =>
       have := hl b (by simp)
       have := ih2 (fun x hx => hp x (by rcases List.mem_cons.1 hx with h | h <;> simp [h])) (fun x hx => hl x (by simp [hx]))
       simp; omega
   simp only [List.sum_cons, List.mem_cons, forall_eq_or_imp]
   rw [<- ih hl]
   omega
theorem ct (A:Option Addr) (n c:Nat) (xs:List Int) (w:World) (hx:SL w A n xs) (hp:∀x∈xs,0<=x) (hn:n<=2000000):
  Calls Tryz.prog 106 #[.slice A n c] w fun e w'=>e = .returned (.bool (decide (xs.sum=0)))/\w=w':=by
 have HX:=h_ hx;have HP:=h_ hp;have HS:=h_ (sum_zero_iff hp);clear hx hp
 go_enter Tryz.func106,Tryz.ntmps106
 go_wp2
 go_loop [3] (fun v3=>∃k:Nat,k<=n/\v3 = .int .i64 k/\Hid (∀j,j<k->xs.getD j 0=0)) (fun v3=>n-(intOf v3).toNat)
 case atStart=>exact⟨0,by omega,rfl,fun j h=>absurd h (by omega)⟩
 case round=>
  obtain⟨k,hk,rfl,HJ⟩:=hrel
  by_cases hlt:k<n
  ·have hki:(k:Int)<(n:Int):=by omega
   obtain⟨bl,ol,hA,hz,hcell⟩:=HX.out.2 (by omega)
   have hc:=hcell k hlt;subst hA;clear hcell;have hlen:=HX.out.1
   have hmem:xs.getD k 0∈xs:=by
    rw[List.getD_eq_getElem?_getD,List.getElem?_eq_getElem (by omega)];exact List.getElem_mem _
   have h0:=HP.out _ hmem;have HM:=h_ hmem;clear hlen hmem;generalize hx:xs.getD k 0=x at *;have HE:=h_ hx;clear hx
   by_cases hpos:0<x
   ·have H:Hid (decide (xs.sum=0)=false):=decide_eq_false fun h=>by
     have:=HS.out.1 h x HM.out
     omega
    clear HM
    go_wp2
    go_ret
    exact⟨by rw[H.out]<;>rfl,rfl⟩
   ·have hx0:x=0:=by omega
    clear HM
    go_wp2
    go_round
    case rel=>exact⟨k+1,by omega,by go_num,fun j hj=>by
     by_cases e:j=k
     ·rw[e,HE.out,hx0]
     ·exact HJ.out j (by omega)⟩
    case measure=>simp[intOf];omega
  ·have hke:k=n:=by omega
   have H:Hid (decide (xs.sum=0)=true):=decide_eq_true (HS.out.2 fun x hx=>by
    obtain⟨i,hi,rfl⟩:=List.mem_iff_getElem.1 hx
    have:=HJ.out i (by have:=HX.out.1;omega)
    rwa [List.getD_eq_getElem?_getD,List.getElem?_eq_getElem hi]at this)
   go_wp2
   go_ret
   exact⟨by rw[H.out]<;>rfl,rfl⟩
end Go.Proofs.YtkaiilmgemaljaaGreat

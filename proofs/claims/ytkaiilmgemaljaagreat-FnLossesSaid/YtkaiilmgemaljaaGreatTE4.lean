/- Part of one proof. There are no conditions. -/
import Derived.Test.YtkaiilmgemaljaaGreatTE1
import Derived.Test.YtkaiilmgemaljaaGreatTU4
import Derived.Test.YtkaiilmgemaljaaGreatTN69
import Derived.Test.YtkaiilmgemaljaaGreatTN64
import Derived.Test.YtkaiilmgemaljaaGreatTN71
set_option linter.unusedVariables false
set_option linter.unusedSimpArgs false
namespace Go.Proofs.YtkaiilmgemaljaaGreat
open Go.RowKit Ps Ra Ex
theorem allQ_ok {g:List Int->Option E} {l:List (List Int)} (h:∀r∈l,∃x,g r=some x):∃t,allQ g l=some t:=by
 induction l using aJ with
 | nil=>exact⟨[],rfl⟩
 | snoc l q ih =>
   obtain ⟨u, hu⟩ := ih fun p hp => h p (by simp [hp])
   obtain ⟨x, hx⟩ := h q (by simp)
   rw [et, hu, Option.bind_some, hx, Option.map_some]
   exact ⟨_, rfl⟩
theorem allQ_get {g:List Int->Option E} {l:List (List Int)} {t:List E} (h:allQ g l=some t):∀i,i<l.length->g (l.getD i [])=some (t.getD i aK):=by
 induction l using aJ generalizing t with
 | nil=>intro i hi;simp at hi
 | snoc l q ih =>
   intro i hi
   rw [et] at h
   cases hs : allQ g l with
   | none => rw [hs] at h; cases h
   | some u =>
     rw [hs] at h
     cases hq : g q with
     | none => rw [hq] at h; cases h
     | some x =>
       rw [hq] at h
       simp only [Option.bind_some, Option.map_some, Option.some.injEq] at h
       subst h; have hl := iB hs; rw [List.length_append, List.length_singleton] at hi
       by_cases he : i < l.length
       · rw [show (l ++ [q]).getD i [] = l.getD i [] by simp [List.getD, List.getElem?_append_left he], show (u ++ [x]).getD i aK = u.getD i aK by simp [List.getD, List.getElem?_append_left (show i < u.length by omega)]]
         exact ih hs i he
       · have : i = l.length := by omega
         subst this
         rw [show (l ++ [q]).getD l.length [] = q by simp [List.getD], show (u ++ [x]).getD l.length aK = x by simp [List.getD, <- hl]]
         exact hq
theorem zero_of {B:Int} {x:E} (hx:Val B x) (h:x.num=0):x=aK:=by
 obtain⟨n,d⟩:=x
 simp only at h
 subst h
 rcases hx.2.2.2.1 with h0|h0
 ·simp only at h0;subst h0;rfl
 ·exact absurd (Int.dvd_zero B) h0
theorem loss_facts {p c h s ra rb:Int} {own other:List Int} (hsm:Small (p,c,h,s)) (H:codeK p c h s ra rb own other true=0):
  ∃ (c' h' s' a b i : Nat) (cs ls : List E), c = c' ∧ h = h' ∧ s = s' ∧ ra = a ∧ rb = b ∧ isVar p c' h' s' = true ∧ rollB s' a b = true ∧ PosP h' c' own ∧ wys h' c' ≤ 500 ∧ i < (resultsL own a b).length ∧ bstR p c' h' s' a b own other = ((resultsL own a b).getD i [], 0) ∧
    chsR p c' h' s' a b own other = (cs, 0) /\ cs.length = (resultsL own a b).length /\ ls.length = cs.length /\ lossR p c' h' s' a b own other ((resultsL own a b).getD i []) = (0, 0, 0) /\
    (∀ k, k < cs.length -> lossR p c' h' s' a b own other ((resultsL own a b).getD k []) = ((ls.getD k aK).num, ((ls.getD k aK).depth : Int), 0) /\ 0 <= (ls.getD k aK).num /\
      ((resultsL own a b).getD 0 [] = (resultsL own a b).getD i [] -> ((ls.getD k aK).num = 0 ↔ cs.getD k aK = cs.getD 0 aK))) := by
 obtain⟨hT,hr,hs⟩:=eG H;have H':=H;rw[codeK_W hr]at H';obtain⟨_,h0,h1,_⟩:=codeW_both H';obtain⟨hv0,_,_,hw⟩:=de hT;obtain⟨c',h',s',rfl,rfl,rfl,hv,hp1,hp2,hB,hB2,hD,ht1,ht2⟩:=race_small hsm hT;obtain⟨a,b,rfl,rfl,ha1,has,hb1,hba⟩:=du hr;rw[Int.toNat_natCast,Int.toNat_natCast]at hw
 have hD':pw (sq s') 10<=ao:=Int.le_trans (bJ hB (by omega)) hD
 obtain⟨t,ht,hd⟩:=best_ok hB hB2 hD' hp1 hp2 h0 (by omega) (r:=(a,b)) (by omega) (by omega)
 have ht':bestS (sq s') (sec s' other) (resultsL own a b)=some t:=ht
 have hne:=cn (a:=a) (b:=b) (by omega) hb1 hp1
 obtain⟨hi,hfi⟩:=bestS_at ht' hne;have hall:=bestS_all ht';obtain⟨cs,hcs⟩:=allQ_ok hall;have hcl:=iB hcs;have hcg:=allQ_get hcs;have htv:Val (sq s') t.2.2:=eW hB hfi;have htu:=best_uni hB ht
 have hsub:∀y∈cs,Val (sq s') y->Uni1 (sq s') y->∃l,minE (sq s') t.2.2 y=some l:=fun y _ hy hu=>sub_ok hB htv hy htu hu
 have key:∀k,k<cs.length->∃z,minE (sq s') t.2.2 (cs.getD k aK)=some z/\0<=z.num/\(z.num=0↔cs.getD k aK=t.2.2)/\Val (sq s') z:=by
  intro k hk
  have hg:=hcg k (by omega)
  have hy:=eW hB hg;have hu:=sec_uni hB hg;obtain⟨z,hz⟩:=sub_ok hB htv hy htu hu
  have htop:=bestS_top hB ht' _ (am _ [] (by omega)) _ hg
  generalize cs.getD k aK=y at *;have hzv:=jO hB hz;obtain⟨M,hM⟩:∃M,M=max t.2.2.depth y.depth:=⟨_,rfl⟩
  obtain⟨d1,d2⟩:=add_av (M:=M) hB hz (by omega) (show y.depth<=M by omega)
  rw[neg_av]at d2
  have d3:=(le_av hB (M:=M) (by omega) (by omega)).1 htop
  have d1':z.depth<=M:=by
   have e:(negE y).depth=y.depth:=rfl;rw[e]at d1
   omega
  have hz0:av (sq s') M z=z.num*pw (sq s') (M-z.depth):=rfl;have hpw:=aA hB (M-z.depth)
  have hnn:0<=z.num:=by
   refine Int.le_of_mul_le_mul_right (a:=pw (sq s') (M-z.depth)) ?_ (by omega)
   rw[Int.zero_mul,<- hz0]
   omega
  refine⟨z,hz,hnn,⟨fun e=>?_,fun e=>?_⟩,hzv⟩
  ·rw[e,Int.zero_mul]at hz0
   exact av_inj hB hy htv (M:=M) (by omega) (by omega) (by omega)
  ·rw[e]at d2
   have:z.num*pw (sq s') (M-z.depth)=0:=by omega
   rcases Int.mul_eq_zero.1 this with h|h
   ·exact h
   ·omega
 have hpos:∀k,k<(resultsL own a b).length->posB h' c' ((resultsL own a b).getD k [])=true:=by
  intro k hk
  obtain⟨q1,q2,q3⟩:=(ax (by omega) hb1 hp1 _ (am (resultsL own a b) [] hk)).1
  exact fD (by omega) q2 q3
 have hcodeL:∀k,k<(resultsL own a b).length->codeL p c' h' s' a b own other ((resultsL own a b).getD k [])=0:=by
  intro k hk
  unfold codeL
  rw[hpos k hk,if_neg (by rintro⟨_,h⟩;cases h)]
  exact H
 have hloss:∀k,k<(resultsL own a b).length->lossR p c' h' s' a b own other ((resultsL own a b).getD k [])=numR (minE (sq s') t.2.2 (cs.getD k aK)):=by
  intro k hk
  unfold lossR;rw[if_pos (hcodeL k hk),Int.toNat_natCast,Int.toNat_natCast,Int.toNat_natCast,if_pos (am _ [] hk)];unfold lossE;rw[ht',hcg k hk]
 refine⟨c',h',s',a,b,t.2.1,cs,cs.map fun y=>(minE (sq s') t.2.2 y).getD aK,rfl,rfl,rfl,rfl,rfl,hv,hr,hp1,hw,hi,?_,?_,hcl,by simp,?_,?_⟩
 ·unfold bstR
  rw[if_pos H,Int.toNat_natCast,Int.toNat_natCast,Int.toNat_natCast,ht']
 ·unfold chsR
  rw[if_pos H,Int.toNat_natCast,Int.toNat_natCast,Int.toNat_natCast,hcs]
 ·rw[hloss _ hi]
  obtain⟨z,hz,_,hz0,hzv⟩:=key t.2.1 (by omega)
  have he:cs.getD t.2.1 aK=t.2.2:=by
   have:=hcg t.2.1 hi;rw[hfi]at this
   exact (Option.some.inj this).symm
  have:=zero_of hzv (hz0.2 he);rw[hz,this]
  rfl
 ·intro k hk
  rw[hloss k (by omega)]
  obtain⟨z,hz,hzn,hz0,_⟩:=key k hk
  have e:(cs.map fun y=>(minE (sq s') t.2.2 y).getD aK).getD k aK=z:=by
   have:(cs.map fun y=>(minE (sq s') t.2.2 y).getD aK).getD k aK=(minE (sq s') t.2.2 (cs.getD k aK)).getD aK:=by simp[List.getD,hk]
   rw[this,hz]
   rfl
  rw[e,hz]
  refine⟨rfl,hzn,fun he=>?_⟩
  have h00:=hcg 0 (by omega)
  rw[he,hfi]at h00;rw[hz0,<- Option.some.inj h00]
end Go.Proofs.YtkaiilmgemaljaaGreat

/- Joined texts of one proof: N43, N23, N44. Each part tells what it shows. There are no conditions. -/
import Derived.Test.YtkaiilmgemaljaaGreatPZr
import Derived.Test.YtkaiilmgemaljaaGreatPZf
import Derived.Test.YtkaiilmgemaljaaGreatPZb
import Derived.Deep.Cut
set_option linter.unusedVariables false
set_option linter.unusedSimpArgs false
/- Contract of the best of some results, the reference's. There are no conditions. -/
namespace Go.Proofs.YtkaiilmgemaljaaGreat
open Go.RowKit Ps Ra Ex
def RetB2 (t:RT2) (w:World) (o:Option (Nat×Nat×E)) (e:Ending) (w':World):Prop:=
 TabI t w'∧Frm t.S w w'∧match o with
  | none=>e = .returned (.tuple #[.int .i64 0,.agg #[.int .i64 0,.int .i64 0],.bool false])
  | some (_,a,x)=>e = .returned (.tuple #[.int .i64 (a:Int),.agg #[.int .i64 x.num,.int .i64 (x.depth:Int)],.bool true])
set_option maxRecDepth 100000 in
set_option maxHeartbeats 4000000 in
theorem l12Best_any (t:RT2) (ht:t.Ok) {other:List Int} (L:List (List Int)) (hL:∀q∈L,PosP t.h t.c q) (haft:∀q∈L,AftC t q other) (A B:Option Addr) (n cl cb:Nat) (w:World) (hn:n≤1000000)
  (hI:TabI t w) (hpl:PL t.S w A n L) (hB:SQ t.S w B t.h other) (hcb:t.h≤cb):
  Calls Tryz.prog 92 #[.pointer (some ⟨t.bt,0,none⟩),.slice A n cl,.slice B t.h cb] w (RetB2 t w (bestS (sq t.s) (sec t.s other) L)):=by
 have hv:=isVar_yes ht.v
 have hs1:1≤t.s:=by omega
 have hs6:t.s≤6:=by omega
 obtain⟨hq1,hq36,_⟩:=sq_bd hs1 hs6;have hlow:=hI.ltS
 have HNS:Hid (∀j,¬t.S (w.heap.size+j)):=fun j h=>by have:=hlow _ h;omega
 have HNB:Hid (∀j,t.bt≠w.heap.size+j):=fun j h=>by have:=hI.ltB;omega
 have HF0:Hid (FrS t.S w ((w.alloc (.cells #[.int .i64 0,.int .i64 0] 35)).alloc (.cells #[.int .i64 0,.int .i64 0] 35)) [[.int .i64 0,.int .i64 0],[.int .i64 0,.int .i64 0]]):=((FrS.start w hlow).allocT (by simp) _ _).allocT (by simp) _ _
 have HI0:Hid (TabI t ((w.alloc (.cells #[.int .i64 0,.int .i64 0] 35)).alloc (.cells #[.int .i64 0,.int .i64 0] 35))):=(hI.alloc _).alloc _;have HPL:=Lib.hid hpl;have HNL:=Lib.hid hpl.len;have HBB:=Lib.hid hB;have HLP:=Lib.hid hL;have HAFT:=Lib.hid haft
 have HSV:=Lib.hid fun (q:List Int) (x:E) (h:sec t.s other q=some x)=>sec_val hq1 h
 have HST:Hid (bestS (sq t.s) (sec t.s other) (L.take 0)=some (0,0,⟨0,0⟩)):=rfl;clear hI hpl hB hL haft hv hlow ht
 go_enter Tryz.func92,Tryz.ntmps92
 go_wp2_with (fail)
 go_loopw [9,11] (fun v9 v11 wr=>∃(k a:Nat) (xn:Int) (xd:Nat),k≤n∧v11 = .int .i64 k∧v9 = .int .i64 a∧Hid (bestS (sq t.s) (sec t.s other) (L.take k)=some (k,a,⟨xn,xd⟩))∧Hid (FrS t.S w wr [[.int .i64 0,.int .i64 0],[.int .i64 xn,.int .i64 (xd:Int)]])∧Hid (TabI t wr)) (fun _ v11 _=>n-(intOf v11).toNat)
 case atStart=>exact⟨0,0,0,0,by omega,rfl,rfl,HST.out,HF0.out,HI0.out⟩
 case round=>
  clear HF0 HI0 HST;obtain⟨k,a,xn,xd,hk,rfl,rfl,hbs,HF,HI⟩:=hrel
  by_cases hlt:k<n
  ·have hki:(k:Int)<(n:Int):=by omega
   obtain⟨bl,ol,Bq,mq,cq,rfl,hzl,hcq,hsq,hmq⟩:=(HPL.out.frm HF.out.f).at hlt
   have hmem:=getD_mem' L [] (k:=k) (by rw[HNL.out];exact hlt)
   have hqp:=HLP.out _ hmem
   have hmh:t.h=mq:=by rw[← hsq.1.1];exact hqp.1.symm
   subst hmh
   have hzr:w.heap.size+2≤wr.heap.size:=by have:=HF.out.z;simpa using this
   have CAF:=Lib.hid (HAFT.out _ hmem Bq B cq cb wr HI.out hsq hmq (HBB.out.frm HF.out.f) hcb)
   have HLL:Hid (k<L.length):=by unfold Hid;rw[HNL.out];exact hlt
   have ha9:a≤1000000:=by
    have:=bestS_count hbs.out
    have h2:(L.take k).length≤k:=by rw[List.length_take];omega
    rcases this.2 with h|h
    ·simp only at h;omega
    ·have h3:=hbs.out
     rw[h,bestS_nil]at h3;injection h3 with h3;injection h3 with _ h3;injection h3 with h3 _
     omega
   rcases hso:sec t.s other (L.getD k []) with _|⟨yn,yd⟩
   ·have HR:Hid (bestS (sq t.s) (sec t.s other) L=none):=bestS_stop HLL.out hbs.out hso
    rw[hso]at CAF;clear hqp hsq hso hmem;obtain⟨z0,c00,f00,c01,f01,z1,c10,f10,c11,f11⟩:=HF.out.xf4
    go_wp2_with (fail)
    clear z0 c00 f00 c01 f01 z1 c10 f10 c11 f11
    refine CAF.out.mono ?_
    rintro e w2 ⟨rfl,hI2,hf2⟩
    have HF2:=Lib.hid (HF.out.frm hf2);have HI2:=Lib.hid hI2;unfold exV
    simp only[Option.getD_none,Option.isSome_none]
    clear hI2 hf2 HF HI CAF;obtain⟨z0,c00,f00,c01,f01,z1,c10,f10,c11,f11⟩:=HF2.out.xf4
    go_wp2_with (fail)
    refine bodyPost_ret (v:=.tuple #[.int .i64 0,.agg #[.int .i64 0,.int .i64 0],.bool false]) (by simp[results,Tryz.results92,go_sem,c00,c01,z0,f00,f01]) rfl ?_
    rw[HR.out]
    refine⟨?_,?_,rfl⟩
    ·repeat (first|exact HI2.out|refine TabI.alloc ?_ _|refine TabI.stored ?_ _ (HNS.out 0) (HNB.out 0))
    ·repeat (first|exact HF2.out.f|refine Frm.alloc ?_ _|refine Frm.ownSet ?_ (by omega) _)
   ·have HYV:Hid (Val (sq t.s) ⟨yn,yd⟩):=HSV.out _ _ hso
    have HXV:Hid (Val (sq t.s) ⟨xn,xd⟩):=bestS_val hq1 HSV.out hbs.out
    have HGO:Hid (k=0∨ltE (sq t.s) ⟨xn,xd⟩ ⟨yn,yd⟩=true→bestS (sq t.s) (sec t.s other) (L.take (k+1))=some (k+1,k,⟨yn,yd⟩)):=fun h=>bestS_go HLL.out hbs.out hso h
    have HKP:Hid (k≠0→ltE (sq t.s) ⟨xn,xd⟩ ⟨yn,yd⟩=false→bestS (sq t.s) (sec t.s other) (L.take (k+1))=some (k+1,a,⟨xn,xd⟩)):=fun h1 h2=>bestS_keep HLL.out hbs.out hso h1 h2
    rw[hso]at CAF;clear hqp hsq hso hmem;obtain⟨z0,c00,f00,c01,f01,z1,c10,f10,c11,f11⟩:=HF.out.xf4
    go_wp2_with (fail)
    clear z0 c00 f00 c01 f01 z1 c10 f10 c11 f11
    refine CAF.out.mono ?_
    rintro e w2 ⟨rfl,hI2,hf2⟩
    have HF2:Hid (FrS t.S w (w2.alloc (.cells #[.int .i64 yn,.int .i64 (yd:Int)] 35)) [[.int .i64 0,.int .i64 0],[.int .i64 xn,.int .i64 (xd:Int)]]):=(HF.out.frm hf2).alloc _;have HI2:Hid (TabI t (w2.alloc (.cells #[.int .i64 yn,.int .i64 (yd:Int)] 35))):=hI2.alloc _;have hzg:w.heap.size+2≤w2.heap.size:=Nat.le_trans hzr hf2.size
    have g0:(w2.alloc (.cells #[.int .i64 yn,.int .i64 (yd:Int)] 35)).cell? ⟨w2.heap.size,0,none⟩=some (.int .i64 yn):=by simp[go_sem]
    have g1:(w2.alloc (.cells #[.int .i64 yn,.int .i64 (yd:Int)] 35)).cell? ⟨w2.heap.size,1,none⟩=some (.int .i64 (yd:Int)):=by simp[go_sem]
    have gz:w2.heap.size<(w2.alloc (.cells #[.int .i64 yn,.int .i64 (yd:Int)] 35)).heap.size:=by simp
    unfold exV
    simp only[Option.getD_some,Option.isSome_some]
    have e0:=HI2.out.tb 0 _ rfl;have e1:=HI2.out.tb 1 _ rfl;have e2:=HI2.out.tb 2 _ rfl;have e3:=HI2.out.tb 3 _ rfl;have hbt:=HI2.out.ltB;clear hI2 hf2 HF HI CAF hzr
    by_cases hk0:k=0
    ·have HR:=Lib.hid (HGO.out (.inl hk0))
     have b0:((k:Int) == 0)=true:=by simp[hk0]
     have HK0:=Lib.hid hk0;clear hk0 HGO HKP
     go_wp2_with (fail)
     generalize w2.alloc (.cells #[.int .i64 yn,.int .i64 (yd:Int)] 35)=W2 at *
     first|refine wp_region_more2 (by kernel_rfl) (by kernel_rfl) ?_|refine wp_region_more (by kernel_rfl) (by kernel_rfl) ?_
     repeat (first|go_big_quiet_step (fail)|quiet_step (fail))
     refine wpQuiet_nil ?_
     intro _ hw'
     obtain⟨tr,hw''⟩:=hw';subst hw'';have HF3:=Lib.hid (HF2.out.more tr);have HI3:=Lib.hid (HI2.out.more tr);have k0:=keep_cell g0 (below_more _ tr);have k1:=keep_cell g1 (below_more _ tr);have kz:=Nat.lt_of_lt_of_le gz (size_more _ tr);clear HF2 HI2 g0 g1 gz e0 e1 e2 e3 hbt;generalize more W2 tr=Z at *;obtain⟨z0,c00,f00,c01,f01,z1,c10,f10,c11,f11⟩:=HF3.out.xf4
     go_wp2_with (fail)
     clear z0 c00 f00 c01 f01 z1 c10 f10 c11 f11;have HF5:Hid (FrS t.S w ((Z.setCell ⟨w.heap.size+1,0,none⟩ (.int .i64 yn)).setCell ⟨w.heap.size+1,1,none⟩ (.int .i64 (yd:Int))) [[.int .i64 0,.int .i64 0],[.int .i64 yn,.int .i64 (yd:Int)]]):=(HF3.out.set 1 0 rfl rfl _).set 1 1 rfl rfl _;have HI5:Hid (TabI t ((Z.setCell ⟨w.heap.size+1,0,none⟩ (.int .i64 yn)).setCell ⟨w.heap.size+1,1,none⟩ (.int .i64 (yd:Int)))):=(HI3.out.stored _ (HNS.out 1) (HNB.out 1)).stored _ (HNS.out 1) (HNB.out 1)
     go_roundw
     case rel=>exact⟨k+1,k,yn,yd,by omega,by go_num,rfl,HR.out,HF5.out,HI5.out⟩
     case measure=>(simp[intOf])<;>omega
    ·have b0:((k:Int) == 0)=false:=by simp[hk0]
     have COMP:=Lib.hid fun (W:World)=>l09Compare_any t.p t.c t.h yn xn t.s yd xd W hs1 hs6 HYV.out HXV.out
     have HCS:Hid ((0<cmpE (sq t.s) ⟨yn,yd⟩ ⟨xn,xd⟩)=(ltE (sq t.s) ⟨xn,xd⟩ ⟨yn,yd⟩=true)):=cmp_swap;have hcb1:=cmp_bd (sq t.s) ⟨yn,yd⟩ ⟨xn,xd⟩;generalize cmpE (sq t.s) ⟨yn,yd⟩ ⟨xn,xd⟩=cm at *
     by_cases hcm:0<cm
     ·have HR:=Lib.hid (HGO.out (.inr (by rw[← HCS.out];exact hcm)))
      clear HGO HKP
      go_wp2_with (fail)
      generalize w2.alloc (.cells #[.int .i64 yn,.int .i64 (yd:Int)] 35)=W2 at *;obtain⟨z0,c00,f00,c01,f01,z1,c10,f10,c11,f11⟩:=HF2.out.xf4
      first|refine wp_region_more2 (by kernel_rfl) (by kernel_rfl) ?_|refine wp_region_more (by kernel_rfl) (by kernel_rfl) ?_
      repeat (first|go_big_quiet_step ((go_at_call 176;exact more_call (COMP.out _)))|quiet_step ((go_at_call 176;exact more_call (COMP.out _))))
      refine wpQuiet_nil ?_
      intro _ hw'
      obtain⟨tr,hw''⟩:=hw';subst hw'';clear z0 c00 f00 c01 f01 z1 c10 f10 c11 f11;have HF3:=Lib.hid (HF2.out.more tr);have HI3:=Lib.hid (HI2.out.more tr);have k0:=keep_cell g0 (below_more _ tr);have k1:=keep_cell g1 (below_more _ tr);have kz:=Nat.lt_of_lt_of_le gz (size_more _ tr);clear HF2 HI2 g0 g1 gz e0 e1 e2 e3 hbt;generalize more W2 tr=Z at *;obtain⟨z0,c00,f00,c01,f01,z1,c10,f10,c11,f11⟩:=HF3.out.xf4
      go_wp2_with (fail)
      clear z0 c00 f00 c01 f01 z1 c10 f10 c11 f11;have HF5:Hid (FrS t.S w ((Z.setCell ⟨w.heap.size+1,0,none⟩ (.int .i64 yn)).setCell ⟨w.heap.size+1,1,none⟩ (.int .i64 (yd:Int))) [[.int .i64 0,.int .i64 0],[.int .i64 yn,.int .i64 (yd:Int)]]):=(HF3.out.set 1 0 rfl rfl _).set 1 1 rfl rfl _;have HI5:Hid (TabI t ((Z.setCell ⟨w.heap.size+1,0,none⟩ (.int .i64 yn)).setCell ⟨w.heap.size+1,1,none⟩ (.int .i64 (yd:Int)))):=(HI3.out.stored _ (HNS.out 1) (HNB.out 1)).stored _ (HNS.out 1) (HNB.out 1)
      go_roundw
      case rel=>exact⟨k+1,k,yn,yd,by omega,by go_num,rfl,HR.out,HF5.out,HI5.out⟩
      case measure=>(simp[intOf])<;>omega
     ·have HR:=Lib.hid (HKP.out hk0 (by
       cases hl:ltE (sq t.s) ⟨xn,xd⟩ ⟨yn,yd⟩with
       | false=>rfl
       | true=>exact absurd (by rw[HCS.out];exact hl) hcm))
      clear HGO HKP
      go_wp2_with (fail)
      generalize w2.alloc (.cells #[.int .i64 yn,.int .i64 (yd:Int)] 35)=W2 at *;obtain⟨z0,c00,f00,c01,f01,z1,c10,f10,c11,f11⟩:=HF2.out.xf4
      first|refine wp_region_more2 (by kernel_rfl) (by kernel_rfl) ?_|refine wp_region_more (by kernel_rfl) (by kernel_rfl) ?_
      repeat (first|go_big_quiet_step ((go_at_call 176;exact more_call (COMP.out _)))|quiet_step ((go_at_call 176;exact more_call (COMP.out _))))
      refine wpQuiet_nil ?_
      intro _ hw'
      obtain⟨tr,hw''⟩:=hw';subst hw'';clear z0 c00 f00 c01 f01 z1 c10 f10 c11 f11;have HF3:=Lib.hid (HF2.out.more tr);have HI3:=Lib.hid (HI2.out.more tr);have k0:=keep_cell g0 (below_more _ tr);have k1:=keep_cell g1 (below_more _ tr);have kz:=Nat.lt_of_lt_of_le gz (size_more _ tr);clear HF2 HI2 g0 g1 gz e0 e1 e2 e3 hbt;generalize more W2 tr=Z at *;obtain⟨z0,c00,f00,c01,f01,z1,c10,f10,c11,f11⟩:=HF3.out.xf4;clear z0 c00 f00 c01 f01 z1 c10 f10 c11 f11
      go_wp2_with (fail)
      go_roundw
      case rel=>exact⟨k+1,a,xn,xd,by omega,by go_num,rfl,HR.out,HF3.out,HI3.out⟩
      case measure=>(simp[intOf])<;>omega
  ·have hke:k=n:=by omega
   have HR:Hid (bestS (sq t.s) (sec t.s other) L=some (k,a,⟨xn,xd⟩)):=by
    have h:=hbs.out
    rwa [List.take_of_length_le (by rw[HNL.out];omega)]at h
   obtain⟨z0,c00,f00,c01,f01,z1,c10,f10,c11,f11⟩:=HF.out.xf4
   go_wp2_with (fail)
   first|refine wp_region_tail_more2 3 (by kernel_rfl) (by kernel_rfl) ?_|refine wp_region_tail_more 3 (by kernel_rfl) (by kernel_rfl) ?_
   simp only[List.take_succ_cons,List.take_zero,List.drop_succ_cons,List.drop_zero]
   repeat (first|go_big_quiet_step (fail)|quiet_step (fail))
   refine wpQuiet_nil ?_
   intro _ hw'
   obtain⟨tr,hw''⟩:=hw';subst hw'';clear z0 c00 f00 c01 f01 z1 c10 f10 c11 f11;have HF2:=Lib.hid (HF.out.more tr);have HI2:=Lib.hid (HI.out.more tr);clear HF HI;generalize more wr tr=Y at *;obtain⟨z0,c00,f00,c01,f01,z1,c10,f10,c11,f11⟩:=HF2.out.xf4
   go_wp2_with (fail)
   refine bodyPost_ret (v:=.tuple #[.int .i64 (a:Int),.agg #[.int .i64 xn,.int .i64 (xd:Int)],.bool true]) (by simp[results,Tryz.results92,go_sem,c00,c01,z0,f00,f01]) rfl ?_
   rw[HR.out]
   refine⟨?_,?_,rfl⟩
   ·repeat (first|exact HI2.out|refine TabI.alloc ?_ _|refine TabI.stored ?_ _ (HNS.out 0) (HNB.out 0))
   ·repeat (first|exact HF2.out.f|refine Frm.alloc ?_ _|refine Frm.ownSet ?_ (by omega) _)
end Go.Proofs.YtkaiilmgemaljaaGreat
/- Contract of the results of a roll, the reference's. There are no conditions. -/
namespace Go.Proofs.YtkaiilmgemaljaaGreat
open Go.RowKit Ps
theorem sl_lit (W:World) (xs:List Int) (e:TypeId):SL (W.alloc (.cells (xs.map (Value.int .i64)).toArray e)) (some ⟨W.heap.size,0,none⟩) xs.length xs:=by
 refine⟨rfl,fun hn=>⟨W.heap.size,0,rfl,by simp,fun i hi=>?_⟩⟩
 rw[Nat.zero_add]
 have h:(xs.map (Value.int .i64))[i]? = some (.int .i64 (xs.getD i 0)):=by simp[List.getD,hi]
 simp[go_sem,List.getD,hi]
set_option maxRecDepth 100000 in
set_option maxHeartbeats 4000000 in
theorem l10Results_any (S:Nat→Prop) (vp vc vh vs:Int) (A:Option Addr) (n c a b:Nat) (p:List Int) (w:World) (hx:SL w A n p) (hc:n≤c) (hp:PosP n 15 p) (hn:n≤24) (hn0:0<n) (hb1:1≤b) (hba:b≤a) (ha6:a≤6) (hS:∀k,w.heap.size≤k→¬S k):
  Calls Tryz.prog 91 #[.agg #[.int .i64 vp,.int .i64 vc,.int .i64 vh,.int .i64 vs],.slice A n c,.agg #[.int .i64 a,.int .i64 b]] w (RetL S w (resultsL p a b)):=by
 have HF:Hid (Fr w ((w.alloc (.cells #[.int .i64 vp,.int .i64 vc,.int .i64 vh,.int .i64 vs] 25)).alloc (.cells #[.int .i64 a,.int .i64 b] 39)) [[.int .i64 vp,.int .i64 vc,.int .i64 vh,.int .i64 vs],[.int .i64 a,.int .i64 b]]):=
  ((Fr.start w).allocT (by simp) _ _).allocT (by simp) _ _
 have HX:=Lib.hid hx;have HP:=Lib.hid hp;have HSS:=Lib.hid hS;clear hx hp hS
 by_cases hab:a=b
 ·subst hab
  obtain⟨m,hm,hu⟩:=uni_double (d:=a) (by omega) 4 HP.out
  have CW:Hid (∀(W:World) (k:Nat),Below w.heap.size w W→W.heap.size=k→Calls Tryz.prog 173 #[.slice A n c,.slice (some ⟨k,0,none⟩) 4 4] (W.alloc (.cells #[.int .i64 a,.int .i64 a,.int .i64 a,.int .i64 a] 2)) (RetW S (W.alloc (.cells #[.int .i64 a,.int .i64 a,.int .i64 a,.int .i64 a] 2)) (sortU (reach [a,a,a,a] p)) m)):=fun W k hW hk=>by
   subst hk;have hW2:Below w.heap.size w (W.alloc (.cells #[.int .i64 a,.int .i64 a,.int .i64 a,.int .i64 a] 2)):=hW.alloc hW.size _
   exact l10Walk_all [a,a,a,a] (fun e he=>by simp at he;omega) (by simp) S p m A n c (some ⟨W.heap.size,0,none⟩) 4 _ (HX.out.below hW2) hc HP.out hn hn0 (sl_lit W [(a:Int),a,a,a] _) (by simp) hu (by omega) (fun k hk=>HSS.out k (Nat.le_trans hW2.size hk))
  have HBW:Hid (Below w.heap.size w ((w.alloc (.cells #[.int .i64 vp,.int .i64 vc,.int .i64 vh,.int .i64 vs] 25)).alloc (.cells #[.int .i64 a,.int .i64 a] 39))):=HF.out.b;clear hm hu
  go_enter Tryz.func91,Tryz.ntmps91
  go_wp2_with (go_at_call 173;(with_reducible refine (CW.out _ _ (by exact HBW.out) (by simp)).mono ?_);rintro e w1 ⟨b1,o1,n1,c1,rfl,hpl1,hc1,hb1⟩)
  go_ret
  rw[← res_eq (by omega) HP.out]
  exact⟨b1,o1,n1,c1,rfl,hpl1,hc1,HBW.out.trans ((Below.alloc (Below.refl _ _) (Nat.le_refl _) _ |>.trans (hb1.mono (by simp))).mono HBW.out.size)⟩
 ·have b0:((a:Int) == (b:Int))=false:=by simp;omega
  have hu1:=cntP_uni (b:=b) (show 1≤a by omega) HP.out
  have hu2:=cntP_uni (b:=a) (show 1≤b by omega) HP.out
  have hN1:cntP a p≤2:=by unfold cntP;split;omega;split<;>omega
  have hN2:cntP b p≤2:=by unfold cntP;split;omega;split<;>omega
  have HL:=Lib.hid (fun h=>res_less (a:=a) (b:=b) (by omega) hb1 HP.out hab h)
  have HM:=Lib.hid (fun h=>res_more (a:=a) (b:=b) (by omega) hb1 HP.out hab h)
  have HE:=Lib.hid (res_both (a:=a) (b:=b) (by omega) hb1 HP.out hab)
  generalize cntP a p=N1 at *;generalize cntP b p=N2 at *
  have CW1:Hid (∀(W:World) (k:Nat),Below w.heap.size w W→W.heap.size=k→Calls Tryz.prog 173 #[.slice A n c,.slice (some ⟨k,0,none⟩) 2 2] (W.alloc (.cells #[.int .i64 a,.int .i64 b] 2)) (RetW S (W.alloc (.cells #[.int .i64 a,.int .i64 b] 2)) (sortU (reach [a,b] p)) N1)):=fun W k hW hk=>by
   subst hk;have hW2:Below w.heap.size w (W.alloc (.cells #[.int .i64 a,.int .i64 b] 2)):=hW.alloc hW.size _
   exact l10Walk_all [a,b] (fun e he=>by simp at he;omega) (by simp) S p N1 A n c (some ⟨W.heap.size,0,none⟩) 2 _ (HX.out.below hW2) hc HP.out hn hn0 (sl_lit W [(a:Int),b] _) (by simp) hu1 (by omega) (fun k hk=>HSS.out k (Nat.le_trans hW2.size hk))
  have CW2:Hid (∀(W:World) (k:Nat),Below w.heap.size w W→W.heap.size=k→Calls Tryz.prog 173 #[.slice A n c,.slice (some ⟨k,0,none⟩) 2 2] (W.alloc (.cells #[.int .i64 b,.int .i64 a] 2)) (RetW S (W.alloc (.cells #[.int .i64 b,.int .i64 a] 2)) (sortU (reach [b,a] p)) N2)):=fun W k hW hk=>by
   subst hk;have hW2:Below w.heap.size w (W.alloc (.cells #[.int .i64 b,.int .i64 a] 2)):=hW.alloc hW.size _
   exact l10Walk_all [b,a] (fun e he=>by simp at he;omega) (by simp) S p N2 A n c (some ⟨W.heap.size,0,none⟩) 2 _ (HX.out.below hW2) hc HP.out hn hn0 (sl_lit W [(b:Int),a] _) (by simp) hu2 (by omega) (fun k hk=>HSS.out k (Nat.le_trans hW2.size hk))
  clear hu1 hu2
  rcases Nat.lt_trichotomy N1 N2 with hlt|heq|hgt
  ·have b1:decide ((N1:Int)<(N2:Int))=true:=decide_eq_true (by omega)
   have HR:Hid (sortU (reach [b,a] p)=resultsL p a b):=HL.out hlt
   go_enter Tryz.func91,Tryz.ntmps91
   go_wp2_with (first
    | (go_at_call 173
       have _t1 := CW1
       (with_reducible refine (CW1.out _ _ (by exact HF.out.b) (by simp)).mono ?_)
       rintro e w1 ⟨b1', o1, n1, c1, rfl, hpl1, hc1, hbb⟩
       have HF1 : Hid (Fr w w1 [[.int .i64 vp, .int .i64 vc, .int .i64 vh, .int .i64 vs], [.int .i64 a, .int .i64 b]]) := (HF.out.alloc _).below hbb; have HP1 := Lib.hid hpl1; clear CW1 _t1 hpl1 hbb; obtain ⟨z0, c00, f00, c01, f01, c02, f02, c03, f03, z1, c10, f10, c11, f11⟩ := HF1.out.xf0
       )
    | (go_at_call 173
       (with_reducible refine (CW2.out _ _ (by exact HF1.out.b) (by simp)).mono ?_)
       rintro e w2 ⟨b2, o2, n2, c2, rfl, hpl2, hc2, hbb⟩
       have HP2 := Lib.hid hpl2
       have hba2 : Below w1.heap.size w1 w2 := ((Below.refl _ _).alloc (Nat.le_refl _) _).trans (hbb.mono (by simp))
       have HP3 : Hid (PL S w2 (some ⟨b1', o1, none⟩) n1 (sortU (reach [a, b] p))) := HP1.out.below hba2; have HB2 : Hid (Below w.heap.size w w2) := HF1.out.b.trans (hba2.mono HF1.out.b.size)
       clear hpl2 hbb hba2))
   go_ret
   rw[← HR.out]
   exact⟨b2,o2,n2,c2,rfl,HP2.out,hc2,HB2.out⟩
  ·have heq:=Lib.hid heq
   have b1:decide ((N1:Int)<(N2:Int))=false:=decide_eq_false (by have:=heq.out;omega)
   have b2:((N2:Int) == (N1:Int))=true:=by simp;have:=heq.out;omega
   have HR:Hid (putAll (sortU (reach [a,b] p)) (sortU (reach [b,a] p))=resultsL p a b):=HE.out
   have hda:∀e∈[a,b],1≤e:=fun e he=>by simp at he;omega
   have hdb:∀e∈[b,a],1≤e:=fun e he=>by simp at he;omega
   have P1:Hid (∀x∈reach [a,b] p,PosP n 15 x):=fun x hx=>(reach_pos hda HP.out x hx).1
   have P2:Hid (∀x∈reach [b,a] p,PosP n 15 x):=fun x hx=>(reach_pos hdb HP.out x hx).1
   have W1:=Lib.hid (sortU_spec (reach_lens hda HP.out));have W2:=Lib.hid (sortU_spec (reach_lens hdb HP.out))
   have hr1:=Nat.le_trans (sortU_len _) (reach_len4 (ds:=[a,b]) (p:=p) (by simp) (by rw[HP.out.1];exact hn))
   have hr2:=Nat.le_trans (sortU_len _) (reach_len4 (ds:=[b,a]) (p:=p) (by simp) (by rw[HP.out.1];exact hn))
   have HR1:=Lib.hid hr1;have HR2:=Lib.hid hr2;clear hda hdb hr1 hr2 HL HM HE
   go_enter Tryz.func91,Tryz.ntmps91
   go_wp2_with (first
    | (go_at_call 173
       have _t1 := CW1
       (with_reducible refine (CW1.out _ _ (by exact HF.out.b) (by simp)).mono ?_)
       rintro e w1 ⟨b1', o1, n1, c1, rfl, hpl1, hc1, hbb⟩
       have HF1 : Hid (Fr w w1 [[.int .i64 vp, .int .i64 vc, .int .i64 vh, .int .i64 vs], [.int .i64 a, .int .i64 b]]) := (HF.out.alloc _).below hbb; have HP1 := Lib.hid hpl1; clear CW1 _t1 hpl1 hbb; obtain ⟨z0, c00, f00, c01, f01, c02, f02, c03, f03, z1, c10, f10, c11, f11⟩ := HF1.out.xf0
       )
    | (go_at_call 173
       (with_reducible refine (CW2.out _ _ (by exact HF1.out.b) (by simp)).mono ?_)
       rintro e w2 ⟨b2, o2, n2, c2, rfl, hpl2, hc2, hbb⟩
       have HP2 := Lib.hid hpl2
       have hba2 : Below w1.heap.size w1 w2 := ((Below.refl _ _).alloc (Nat.le_refl _) _).trans (hbb.mono (by simp))
       have HP3 : Hid (PL S w2 (some ⟨b1', o1, none⟩) n1 (sortU (reach [a, b] p))) := HP1.out.below hba2; have HB2 : Hid (Below w.heap.size w w2) := HF1.out.b.trans (hba2.mono HF1.out.b.size)
       clear hpl2 hbb hba2))
   generalize sortU (reach [a,b] p)=L1 at *;generalize sortU (reach [b,a] p)=L2 at *
   have hn2:n2≤331776:=by rw[← HP2.out.len];exact HR2.out
   go_loopw [9,13] (fun vb vk wi=>∃k:Nat,k≤n2∧vk = .int .i64 k∧∃(b7 o7 n7 c7:Nat),vb = .slice (some ⟨b7,o7,none⟩) n7 c7∧n7≤c7∧Hid (PL S wi (some ⟨b7,o7,none⟩) n7 (putAll L1 (L2.take k)))∧Hid (Below w2.heap.size w2 wi)) (fun _ vk _=>n2-(intOf vk).toNat)
   case atStart=>exact⟨0,Nat.zero_le _,rfl,b1',o1,n1,c1,rfl,hc1,by unfold Hid;rw[List.take_zero,putAll_nil];exact HP3.out,Below.refl _ _⟩
   case round=>
    obtain⟨k,hk,rfl,b7,o7,n7,c7,rfl,hnc7,HP7,HB7⟩:=hrel
    by_cases hkn:k<n2
    ·have hkk:(k:Int)<(n2:Int):=by omega
     obtain⟨b9',o9',Br,mr,cr,hA,hz9,hcell9,hsr,hmr⟩:=(HP2.out.below HB7.out).at hkn;injection hA with hA;injection hA with hA1 hA2;subst hA1 hA2;have hlen9:=HP2.out.len
     have hrm:=getD_mem' L2 ([]:List Int) (k:=k) (by omega)
     have htk:Hid (L2.take (k+1)=L2.take k++[L2.getD k []]):=by
      unfold Hid
      rw[List.take_succ_eq_append_getElem (by omega)]
      simp[List.getD,show k<L2.length by omega]
     have hrp:PosP n 15 (L2.getD k []):=P2.out _ ((W2.out.2.2 _).1 hrm)
     have hps:∀x∈putAll L1 (L2.take k),PosP n 15 x:=fun x hx=>by
      rcases ((putAll_spec W1.out.1 (fun y hy=>W2.out.1 y (List.mem_of_mem_take hy)) W1.out.2.1).2.2 x).1 hx with h|h
      ·exact P1.out x ((W1.out.2.2 x).1 h)
      ·exact P2.out x ((W2.out.2.2 x).1 (List.mem_of_mem_take h))
     have hn7:n7≤1000000:=by
      rw[← HP7.out.len];have h1:=putAll_len L1 (L2.take k)
      have h3:(L2.take k).length≤L2.length:=by rw[List.length_take];omega
      have h4:=HR1.out;have h5:=HR2.out
      omega
     generalize L2.getD k []=r at *
     have hrn:n=mr:=by rw[← hsr.1.1];exact hrp.1.symm
     subst hrn
     have CP:=Lib.hid (l10Put_any S b7 o7 n7 c7 _ Br n cr r wr (fun j hj=>HSS.out j (by have h1:=HB7.out.size;have h2:=HB2.out.size;omega)) HP7.out hnc7 hn7 hsr hmr hn hrp hps)
     clear hps hrp hsr hlen9 hrm
     go_wp2_with (go_at_call 174;((with_reducible refine CP.out.mono ?_);rintro e w5 ⟨b5,o5,n5,c5,rfl,hpl5,hc5,hb5⟩))
     go_roundw
     case rel=>exact⟨k+1,by omega,by go_num,b5,o5,n5,c5,rfl,hc5,by unfold Hid;rw[htk.out,putAll_snoc];exact hpl5,HB7.out.trans (hb5.mono HB7.out.size)⟩
     case measure=>(simp[intOf])<;>omega
    ·have hkl:k=n2:=by omega
     subst hkl
     have HPe:Hid (PL S wr (some ⟨b7,o7,none⟩) n7 (putAll L1 L2)):=by
      have h:=HP7.out
      rw[List.take_of_length_le (by rw[HP2.out.len];exact Nat.le_refl _)]at h
      exact h
     go_wp2_with (fail)
     go_ret
     rw[← HR.out]
     exact⟨b7,o7,n7,c7,rfl,HPe.out,hnc7,HB2.out.trans (HB7.out.mono HB2.out.size)⟩
  ·have b1:decide ((N1:Int)<(N2:Int))=false:=decide_eq_false (by omega)
   have b2:((N2:Int) == (N1:Int))=false:=by simp;omega
   have HR:Hid (sortU (reach [a,b] p)=resultsL p a b):=HM.out hgt
   go_enter Tryz.func91,Tryz.ntmps91
   go_wp2_with (first
    | (go_at_call 173
       have _t1 := CW1
       (with_reducible refine (CW1.out _ _ (by exact HF.out.b) (by simp)).mono ?_)
       rintro e w1 ⟨b1', o1, n1, c1, rfl, hpl1, hc1, hbb⟩
       have HF1 : Hid (Fr w w1 [[.int .i64 vp, .int .i64 vc, .int .i64 vh, .int .i64 vs], [.int .i64 a, .int .i64 b]]) := (HF.out.alloc _).below hbb; have HP1 := Lib.hid hpl1; clear CW1 _t1 hpl1 hbb; obtain ⟨z0, c00, f00, c01, f01, c02, f02, c03, f03, z1, c10, f10, c11, f11⟩ := HF1.out.xf0
       )
    | (go_at_call 173
       (with_reducible refine (CW2.out _ _ (by exact HF1.out.b) (by simp)).mono ?_)
       rintro e w2 ⟨b2, o2, n2, c2, rfl, hpl2, hc2, hbb⟩
       have HP2 := Lib.hid hpl2
       have hba2 : Below w1.heap.size w1 w2 := ((Below.refl _ _).alloc (Nat.le_refl _) _).trans (hbb.mono (by simp))
       have HP3 : Hid (PL S w2 (some ⟨b1', o1, none⟩) n1 (sortU (reach [a, b] p))) := HP1.out.below hba2; have HB2 : Hid (Below w.heap.size w w2) := HF1.out.b.trans (hba2.mono HF1.out.b.size)
       clear hpl2 hbb hba2))
   go_loopw [9,13] (fun vb vk wi=>vb = .slice (some ⟨b1',o1,none⟩) n1 c1∧vk = .int .i64 0∧Hid (wi=w2)) (fun _ _ _=>0)
   case atStart=>exact⟨rfl,rfl,rfl⟩
   case round=>
    obtain⟨rfl,rfl,hw⟩:=hrel
    by_cases hn2:0<n2
    ·have hn2':(0:Int)<(n2:Int):=by omega
     go_wp2_with (fail)
     go_ret
     rw[← HR.out,hw.out]
     exact⟨b1',o1,n1,c1,rfl,HP3.out,hc1,HB2.out⟩
    ·have hn2':¬(0:Int)<(n2:Int):=by omega
     go_wp2_with (fail)
     go_ret
     rw[← HR.out,hw.out]
     exact⟨b1',o1,n1,c1,rfl,HP3.out,hc1,HB2.out⟩
end Go.Proofs.YtkaiilmgemaljaaGreat
/- Contract of a win chance, the reference's. There are no conditions. -/
namespace Go.Proofs.YtkaiilmgemaljaaGreat
open Go.RowKit Ps Ra Ex
theorem Frm.outs {S O:Nat→Prop} {w wr w2:World} (h:Frm S w wr) (hf:Frm O wr w2) (hO:∀k,O k→w.heap.size≤k):Frm S w w2:=
 ⟨hf.os.trans h.os,hf.tape.trans h.tape,hf.output.trans h.output,Nat.le_trans h.size hf.size,fun k hk hn=>(hf.block k (Nat.lt_of_lt_of_le hk h.size) fun ho=>by have:=hO k ho;omega).trans (h.block k hk hn)⟩
def v13d (i:Nat):Nat:=if i≤12 then 70+i else if i=13 then 69 else if i≤16 then 69+i else 13
def v13G (t:RT2) (wr:World) (A B:Option Addr) (ca cb:Nat) (rb ro cr k a b:Nat) (own:List Int) (R x0 x1 x2:Value) (i:Nat) (v:Value) (W:World):Prop:=
 match i with
 | 0=>v = .pointer (some ⟨t.bt,0,none⟩)
 | 1=>v = .pointer (some ⟨t.bt,0,none⟩)
 | 2=>v = .pointer (some ⟨t.bt,0,none⟩)
 | 3=>v = .pointer (some ⟨t.bt,0,none⟩)
 | 4=>v = .agg #[.int .i64 t.p,.int .i64 t.c,.int .i64 t.h,.int .i64 t.s]
 | 5=>v = .slice A t.h ca
 | 6=>v = .slice (some ⟨rb,ro,none⟩) (rollsN t.s).length cr
 | 7=>v = .int .i64 (k:Int)
 | 8=>v = .pointer (some ⟨rb,ro+k*2,none⟩)
 | 9=>v = .agg #[.int .i64 (a:Int),.int .i64 (b:Int)]
 | 10=>∃b' off n c,v = .slice (some ⟨b',off,none⟩) n c∧PL t.S W (some ⟨b',off,none⟩) n (resultsL own a b)∧n≤c
 | 11=>v = .slice B t.h cb
 | 12=>v=R
 | 13=>v=R
 | 14=>v=x0
 | 15=>v=x1
 | 16=>v=x2
 | _=>∃g,v = .pointer (some ⟨g,0,none⟩)∧wr.heap.size≤g∧W.cell? ⟨g,0,none⟩=some (.int .i64 0)∧W.cell? ⟨g,1,none⟩=some (.int .i64 0)∧W.frozen? ⟨g,0,none⟩=false∧W.frozen? ⟨g,1,none⟩=false
theorem v13_stab {t:RT2} {wr:World} {A B:Option Addr} {ca cb rb ro cr k a b:Nat} {own:List Int} {R x0 x1 x2:Value} (hlow:∀k,t.S k→k<wr.heap.size) (i:Nat) (v:Value) (W W':World) (hg:v13G t wr A B ca cb rb ro cr k a b own R x0 x1 x2 i v W) (hr:Frm t.S W W'):
  v13G t wr A B ca cb rb ro cr k a b own R x0 x1 x2 i v W':=by
 unfold v13G at *
 split at hg
 all_goals first
  | exact hg
  | (obtain⟨b',off,n,c,h1,h2,h3⟩:=hg;exact⟨b',off,n,c,h1,h2.frm hr,h3⟩)
  | (obtain ⟨g, h1, h2, h3, h4, h5, h6⟩ := hg
     have hn : ¬ t.S g := fun h => by have := hlow g h; omega
     have hl := World.block_lt_of_cell? W _ h3
     exact ⟨g, h1, h2, hr.cell' h3 hn, hr.cell' h4 hn, (frm_froz hr hl hn).trans h5, (frm_froz hr hl hn).trans h6⟩)
end Go.Proofs.YtkaiilmgemaljaaGreat

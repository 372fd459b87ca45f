/- Contracts of the least of some results and of the number after a roll, the reference's. There are no conditions. -/
import Derived.Test.YtkaiilmgemaljaaGreatPR10
import Derived.Test.YtkaiilmgemaljaaGreatPZt
set_option linter.unusedVariables false
set_option linter.unusedSimpArgs false
namespace Go.Proofs.YtkaiilmgemaljaaGreat
open Go.RowKit Ps Ra Ex
def RetBU (t:UT) (w:World) (o:Option (Nat×Nat×E)) (e:Ending) (w':World):Prop:=
 UtI t w'∧Frm t.S w w'∧match o with
  | none=>e = .returned (.tuple #[.int .i64 0,.agg #[.int .i64 0,.int .i64 0],.bool false])
  | some (_,a,x)=>e = .returned (.tuple #[.int .i64 (a:Int),.agg #[.int .i64 x.num,.int .i64 (x.depth:Int)],.bool true])
set_option maxRecDepth 100000 in
set_option maxHeartbeats 4000000 in
theorem l11Best_any (t:UT) (ht:t.Ok) (L:List (List Int)) (hL:∀q∈L,PosP t.h t.c q) (haft:∀q∈L,UVal t q) (A:Option Addr) (n cl:Nat) (w:World) (hn:n≤1000000)
  (hI:UtI t w) (hpl:PL t.S w A n L):
  Calls Tryz.prog 237 #[.pointer (some ⟨t.bt,0,none⟩),.slice A n cl] w (RetBU t w (lstS (sq t.s) (xp t.s) L)):=by
 have hv:=isVar_yes ht.v
 have hs1:1≤t.s:=by omega
 have hs6:t.s≤6:=by omega
 obtain⟨hq1,hq36,_⟩:=sq_bd hs1 hs6;have hlow:=hI.ltS
 have HNS:Hid (∀j,¬t.S (w.heap.size+j)):=fun j h=>by have:=hlow _ h;omega
 have HNB:Hid (∀j,t.bt≠w.heap.size+j):=fun j h=>by have:=hI.ltB;omega
 have HF0:Hid (FrS t.S w ((w.alloc (.cells #[.int .i64 0,.int .i64 0] 35)).alloc (.cells #[.int .i64 0,.int .i64 0] 35)) [[.int .i64 0,.int .i64 0],[.int .i64 0,.int .i64 0]]):=((FrS.start w hlow).allocT (by simp) _ _).allocT (by simp) _ _
 have HI0:Hid (UtI t ((w.alloc (.cells #[.int .i64 0,.int .i64 0] 35)).alloc (.cells #[.int .i64 0,.int .i64 0] 35))):=(hI.alloc _).alloc _;have HPL:=Lib.hid hpl;have HNL:=Lib.hid hpl.len;have HLP:=Lib.hid hL;have HAFT:=Lib.hid haft
 have HSV:=Lib.hid fun (q:List Int) (x:E) (h:xp t.s q=some x)=>xp_val hq1 h
 have HST:Hid (lstS (sq t.s) (xp t.s) (L.take 0)=some (0,0,⟨0,0⟩)):=rfl;clear hI hpl hL haft hv hlow ht
 go_enter Tryz.func237,Tryz.ntmps237
 go_wp2_with (fail)
 go_loopw [7,9] (fun v9 v11 wr=>∃(k a:Nat) (xn:Int) (xd:Nat),k≤n∧v11 = .int .i64 k∧v9 = .int .i64 a∧Hid (lstS (sq t.s) (xp t.s) (L.take k)=some (k,a,⟨xn,xd⟩))∧Hid (FrS t.S w wr [[.int .i64 0,.int .i64 0],[.int .i64 xn,.int .i64 (xd:Int)]])∧Hid (UtI t wr)) (fun _ v11 _=>n-(intOf v11).toNat)
 case atStart=>exact⟨0,0,0,0,by omega,rfl,rfl,HST.out,HF0.out,HI0.out⟩
 case round=>
  clear HF0 HI0 HST;obtain⟨k,a,xn,xd,hk,rfl,rfl,hbs,HF,HI⟩:=hrel
  by_cases hlt:k<n
  ·have hki:(k:Int)<(n:Int):=by omega
   obtain⟨bl,ol,Bq,mq,cq,rfl,hzl,hcq,hsq,hmq⟩:=(HPL.out.frm HF.out.f).at hlt
   have hmem:=getD_mem' L [] (k:=k) (by rw[HNL.out];exact hlt)
   have hqp:=HLP.out _ hmem
   have hmh:t.h=mq:=by rw[← hsq.1.1];exact hqp.1.symm
   subst hmh
   have hzr:w.heap.size+2≤wr.heap.size:=by have:=HF.out.z;simpa using this
   have CAF:=Lib.hid (HAFT.out _ hmem Bq cq wr HI.out hsq hmq)
   have HLL:Hid (k<L.length):=by unfold Hid;rw[HNL.out];exact hlt
   have ha9:a≤1000000:=by
    have:=lstS_count hbs.out
    have h2:(L.take k).length≤k:=by rw[List.length_take];omega
    rcases this.2 with h|h
    ·simp only at h;omega
    ·have h3:=hbs.out
     rw[h,lstS_nil]at h3;injection h3 with h3;injection h3 with _ h3;injection h3 with h3 _
     omega
   rcases hso:xp t.s (L.getD k []) with _|⟨yn,yd⟩
   ·have HR:Hid (lstS (sq t.s) (xp t.s) L=none):=lstS_stop HLL.out hbs.out hso
    rw[hso]at CAF;clear hqp hsq hso hmem;obtain⟨z0,c00,f00,c01,f01,z1,c10,f10,c11,f11⟩:=HF.out.xf4
    go_wp2_with (fail)
    clear z0 c00 f00 c01 f01 z1 c10 f10 c11 f11
    refine CAF.out.mono ?_
    rintro e w2 ⟨rfl,hI2,hf2⟩
    have HF2:=Lib.hid (HF.out.frm hf2);have HI2:=Lib.hid hI2;unfold exV
    simp only[Option.getD_none,Option.isSome_none]
    clear hI2 hf2 HF HI CAF;obtain⟨z0,c00,f00,c01,f01,z1,c10,f10,c11,f11⟩:=HF2.out.xf4
    go_wp2_with (fail)
    refine bodyPost_ret (v:=.tuple #[.int .i64 0,.agg #[.int .i64 0,.int .i64 0],.bool false]) (by simp[results,Tryz.results237,go_sem,c00,c01,z0,f00,f01]) rfl ?_
    rw[HR.out]
    refine⟨?_,?_,rfl⟩
    ·repeat (first|exact HI2.out|refine UtI.alloc ?_ _|refine UtI.stored ?_ _ (HNS.out 0) (HNB.out 0))
    ·repeat (first|exact HF2.out.f|refine Frm.alloc ?_ _|refine Frm.ownSet ?_ (by omega) _)
   ·have HYV:Hid (Val (sq t.s) ⟨yn,yd⟩):=HSV.out _ _ hso
    have HXV:Hid (Val (sq t.s) ⟨xn,xd⟩):=lstS_val HSV.out hbs.out
    have HGO:Hid (k=0∨ltE (sq t.s) ⟨yn,yd⟩ ⟨xn,xd⟩=true→lstS (sq t.s) (xp t.s) (L.take (k+1))=some (k+1,k,⟨yn,yd⟩)):=fun h=>lstS_go HLL.out hbs.out hso h
    have HKP:Hid (k≠0→ltE (sq t.s) ⟨yn,yd⟩ ⟨xn,xd⟩=false→lstS (sq t.s) (xp t.s) (L.take (k+1))=some (k+1,a,⟨xn,xd⟩)):=fun h1 h2=>lstS_keep HLL.out hbs.out hso h1 h2
    rw[hso]at CAF;clear hqp hsq hso hmem;obtain⟨z0,c00,f00,c01,f01,z1,c10,f10,c11,f11⟩:=HF.out.xf4
    go_wp2_with (fail)
    clear z0 c00 f00 c01 f01 z1 c10 f10 c11 f11
    refine CAF.out.mono ?_
    rintro e w2 ⟨rfl,hI2,hf2⟩
    have HF2:Hid (FrS t.S w (w2.alloc (.cells #[.int .i64 yn,.int .i64 (yd:Int)] 35)) [[.int .i64 0,.int .i64 0],[.int .i64 xn,.int .i64 (xd:Int)]]):=(HF.out.frm hf2).alloc _;have HI2:Hid (UtI t (w2.alloc (.cells #[.int .i64 yn,.int .i64 (yd:Int)] 35))):=hI2.alloc _;have hzg:w.heap.size+2≤w2.heap.size:=Nat.le_trans hzr hf2.size
    have g0:(w2.alloc (.cells #[.int .i64 yn,.int .i64 (yd:Int)] 35)).cell? ⟨w2.heap.size,0,none⟩=some (.int .i64 yn):=by simp[go_sem]
    have g1:(w2.alloc (.cells #[.int .i64 yn,.int .i64 (yd:Int)] 35)).cell? ⟨w2.heap.size,1,none⟩=some (.int .i64 (yd:Int)):=by simp[go_sem]
    have gz:w2.heap.size<(w2.alloc (.cells #[.int .i64 yn,.int .i64 (yd:Int)] 35)).heap.size:=by simp
    unfold exV
    simp only[Option.getD_some,Option.isSome_some]
    have e0:=HI2.out.tb 0 _ rfl;have e1:=HI2.out.tb 1 _ rfl;have e2:=HI2.out.tb 2 _ rfl;have e3:=HI2.out.tb 3 _ rfl;have hbt:=HI2.out.ltB;clear hI2 hf2 HF HI CAF hzr
    by_cases hk0:k=0
    ·have HR:=Lib.hid (HGO.out (.inl hk0))
     have b0:((k:Int) == 0)=true:=by simp[hk0]
     have HK0:=Lib.hid hk0;clear hk0 HGO HKP
     go_wp2_with (fail)
     generalize w2.alloc (.cells #[.int .i64 yn,.int .i64 (yd:Int)] 35)=W2 at *
     first|refine wp_region_more2 (by kernel_rfl) (by kernel_rfl) ?_|refine wp_region_more (by kernel_rfl) (by kernel_rfl) ?_
     repeat (first|go_big_quiet_step (fail)|quiet_step (fail))
     refine wpQuiet_nil ?_
     intro _ hw'
     obtain⟨tr,hw''⟩:=hw';subst hw'';have HF3:=Lib.hid (HF2.out.more tr);have HI3:=Lib.hid (HI2.out.more tr);have k0:=keep_cell g0 (below_more _ tr);have k1:=keep_cell g1 (below_more _ tr);have kz:=Nat.lt_of_lt_of_le gz (size_more _ tr);clear HF2 HI2 g0 g1 gz e0 e1 e2 e3 hbt;generalize more W2 tr=Z at *;obtain⟨z0,c00,f00,c01,f01,z1,c10,f10,c11,f11⟩:=HF3.out.xf4
     go_wp2_with (fail)
     clear z0 c00 f00 c01 f01 z1 c10 f10 c11 f11;have HF5:Hid (FrS t.S w ((Z.setCell ⟨w.heap.size+1,0,none⟩ (.int .i64 yn)).setCell ⟨w.heap.size+1,1,none⟩ (.int .i64 (yd:Int))) [[.int .i64 0,.int .i64 0],[.int .i64 yn,.int .i64 (yd:Int)]]):=(HF3.out.set 1 0 rfl rfl _).set 1 1 rfl rfl _;have HI5:Hid (UtI t ((Z.setCell ⟨w.heap.size+1,0,none⟩ (.int .i64 yn)).setCell ⟨w.heap.size+1,1,none⟩ (.int .i64 (yd:Int)))):=(HI3.out.stored _ (HNS.out 1) (HNB.out 1)).stored _ (HNS.out 1) (HNB.out 1)
     go_roundw
     case rel=>exact⟨k+1,k,yn,yd,by omega,by go_num,rfl,HR.out,HF5.out,HI5.out⟩
     case measure=>(simp[intOf])<;>omega
    ·have b0:((k:Int) == 0)=false:=by simp[hk0]
     have COMP:=Lib.hid fun (W:World)=>l09Compare_any t.p t.c t.h yn xn t.s yd xd W hs1 hs6 HYV.out HXV.out
     have HCS:Hid ((cmpE (sq t.s) ⟨yn,yd⟩ ⟨xn,xd⟩<0)=(ltE (sq t.s) ⟨yn,yd⟩ ⟨xn,xd⟩=true)):=cmp_ltE;have hcb1:=cmp_bd (sq t.s) ⟨yn,yd⟩ ⟨xn,xd⟩;generalize cmpE (sq t.s) ⟨yn,yd⟩ ⟨xn,xd⟩=cm at *
     by_cases hcm:cm<0
     ·have HR:=Lib.hid (HGO.out (.inr (by rw[← HCS.out];exact hcm)))
      clear HGO HKP
      go_wp2_with (fail)
      generalize w2.alloc (.cells #[.int .i64 yn,.int .i64 (yd:Int)] 35)=W2 at *;obtain⟨z0,c00,f00,c01,f01,z1,c10,f10,c11,f11⟩:=HF2.out.xf4
      first|refine wp_region_more2 (by kernel_rfl) (by kernel_rfl) ?_|refine wp_region_more (by kernel_rfl) (by kernel_rfl) ?_
      repeat (first|go_big_quiet_step ((go_at_call 176;exact more_call (COMP.out _)))|quiet_step ((go_at_call 176;exact more_call (COMP.out _))))
      refine wpQuiet_nil ?_
      intro _ hw'
      obtain⟨tr,hw''⟩:=hw';subst hw'';clear z0 c00 f00 c01 f01 z1 c10 f10 c11 f11;have HF3:=Lib.hid (HF2.out.more tr);have HI3:=Lib.hid (HI2.out.more tr);have k0:=keep_cell g0 (below_more _ tr);have k1:=keep_cell g1 (below_more _ tr);have kz:=Nat.lt_of_lt_of_le gz (size_more _ tr);clear HF2 HI2 g0 g1 gz e0 e1 e2 e3 hbt;generalize more W2 tr=Z at *;obtain⟨z0,c00,f00,c01,f01,z1,c10,f10,c11,f11⟩:=HF3.out.xf4
      go_wp2_with (fail)
      clear z0 c00 f00 c01 f01 z1 c10 f10 c11 f11;have HF5:Hid (FrS t.S w ((Z.setCell ⟨w.heap.size+1,0,none⟩ (.int .i64 yn)).setCell ⟨w.heap.size+1,1,none⟩ (.int .i64 (yd:Int))) [[.int .i64 0,.int .i64 0],[.int .i64 yn,.int .i64 (yd:Int)]]):=(HF3.out.set 1 0 rfl rfl _).set 1 1 rfl rfl _;have HI5:Hid (UtI t ((Z.setCell ⟨w.heap.size+1,0,none⟩ (.int .i64 yn)).setCell ⟨w.heap.size+1,1,none⟩ (.int .i64 (yd:Int)))):=(HI3.out.stored _ (HNS.out 1) (HNB.out 1)).stored _ (HNS.out 1) (HNB.out 1)
      go_roundw
      case rel=>exact⟨k+1,k,yn,yd,by omega,by go_num,rfl,HR.out,HF5.out,HI5.out⟩
      case measure=>(simp[intOf])<;>omega
     ·have HR:=Lib.hid (HKP.out hk0 (by
       cases hl:ltE (sq t.s) ⟨yn,yd⟩ ⟨xn,xd⟩with
       | false=>rfl
       | true=>exact absurd (by rw[HCS.out];exact hl) hcm))
      clear HGO HKP
      go_wp2_with (fail)
      generalize w2.alloc (.cells #[.int .i64 yn,.int .i64 (yd:Int)] 35)=W2 at *;obtain⟨z0,c00,f00,c01,f01,z1,c10,f10,c11,f11⟩:=HF2.out.xf4
      first|refine wp_region_more2 (by kernel_rfl) (by kernel_rfl) ?_|refine wp_region_more (by kernel_rfl) (by kernel_rfl) ?_
      repeat (first|go_big_quiet_step ((go_at_call 176;exact more_call (COMP.out _)))|quiet_step ((go_at_call 176;exact more_call (COMP.out _))))
      refine wpQuiet_nil ?_
      intro _ hw'
      obtain⟨tr,hw''⟩:=hw';subst hw'';clear z0 c00 f00 c01 f01 z1 c10 f10 c11 f11;have HF3:=Lib.hid (HF2.out.more tr);have HI3:=Lib.hid (HI2.out.more tr);have k0:=keep_cell g0 (below_more _ tr);have k1:=keep_cell g1 (below_more _ tr);have kz:=Nat.lt_of_lt_of_le gz (size_more _ tr);clear HF2 HI2 g0 g1 gz e0 e1 e2 e3 hbt;generalize more W2 tr=Z at *;obtain⟨z0,c00,f00,c01,f01,z1,c10,f10,c11,f11⟩:=HF3.out.xf4;clear z0 c00 f00 c01 f01 z1 c10 f10 c11 f11
      go_wp2_with (fail)
      go_roundw
      case rel=>exact⟨k+1,a,xn,xd,by omega,by go_num,rfl,HR.out,HF3.out,HI3.out⟩
      case measure=>(simp[intOf])<;>omega
  ·have hke:k=n:=by omega
   have HR:Hid (lstS (sq t.s) (xp t.s) L=some (k,a,⟨xn,xd⟩)):=by
    have h:=hbs.out
    rwa [List.take_of_length_le (by rw[HNL.out];omega)]at h
   obtain⟨z0,c00,f00,c01,f01,z1,c10,f10,c11,f11⟩:=HF.out.xf4
   go_wp2_with (fail)
   first|refine wp_region_tail_more2 3 (by kernel_rfl) (by kernel_rfl) ?_|refine wp_region_tail_more 3 (by kernel_rfl) (by kernel_rfl) ?_
   simp only[List.take_succ_cons,List.take_zero,List.drop_succ_cons,List.drop_zero]
   repeat (first|go_big_quiet_step (fail)|quiet_step (fail))
   refine wpQuiet_nil ?_
   intro _ hw'
   obtain⟨tr,hw''⟩:=hw';subst hw'';clear z0 c00 f00 c01 f01 z1 c10 f10 c11 f11;have HF2:=Lib.hid (HF.out.more tr);have HI2:=Lib.hid (HI.out.more tr);clear HF HI;generalize more wr tr=Y at *;obtain⟨z0,c00,f00,c01,f01,z1,c10,f10,c11,f11⟩:=HF2.out.xf4
   go_wp2_with (fail)
   refine bodyPost_ret (v:=.tuple #[.int .i64 (a:Int),.agg #[.int .i64 xn,.int .i64 (xd:Int)],.bool true]) (by simp[results,Tryz.results237,go_sem,c00,c01,z0,f00,f01]) rfl ?_
   rw[HR.out]
   refine⟨?_,?_,rfl⟩
   ·repeat (first|exact HI2.out|refine UtI.alloc ?_ _|refine UtI.stored ?_ _ (HNS.out 0) (HNB.out 0))
   ·repeat (first|exact HF2.out.f|refine Frm.alloc ?_ _|refine Frm.ownSet ?_ (by omega) _)
def u1d (i:Nat):Nat:=i+12
def u1G (t:UT) (A:Option Addr) (ca a b:Nat) (L:List (List Int)) (i:Nat) (v:Value) (W:World):Prop:=
 match i with
 | 0=>v = .pointer (some ⟨t.bt,0,none⟩)
 | 1=>v = .pointer (some ⟨t.bt,0,none⟩)
 | 2=>v = .pointer (some ⟨t.bt,0,none⟩)
 | 3=>v = .agg #[.int .i64 t.p,.int .i64 t.c,.int .i64 t.h,.int .i64 t.s]
 | 4=>v = .slice A t.h ca
 | 5=>v = .agg #[.int .i64 (a:Int),.int .i64 (b:Int)]
 | _=>∃b' off n c,v = .slice (some ⟨b',off,none⟩) n c∧PL t.S W (some ⟨b',off,none⟩) n L∧n≤c
theorem u1_stab {t:UT} {A:Option Addr} {ca a b:Nat} {L:List (List Int)} (i:Nat) (v:Value) (W W':World) (hg:u1G t A ca a b L i v W) (hr:Bel W W'):u1G t A ca a b L i v W':=by
 unfold u1G at *
 split at hg
 all_goals first
  | exact hg
  | (obtain⟨b',off,n,c,h1,h2,h3⟩:=hg;exact⟨b',off,n,c,h1,h2.below hr,h3⟩)
set_option maxRecDepth 100000 in
set_option maxHeartbeats 4000000 in
theorem l11Roll_any (t:UT) (ht:t.Ok) {q:List Int} (hq:PosP t.h t.c q) (a b:Nat) (r1:1≤b) (r2:b≤a) (r3:a≤t.s) (hval:∀x∈resultsL q a b,UVal t x)
  (A:Option Addr) (ca:Nat) (w:World) (hI:UtI t w) (hA:SQ t.S w A t.h q) (hca:t.h≤ca):
  Calls Tryz.prog 211 #[.pointer (some ⟨t.bt,0,none⟩),.slice A t.h ca,.agg #[.int .i64 (a:Int),.int .i64 (b:Int)]] w (RetUn t w (rollL t.s q (a,b))):=by
 have hv:=isVar_yes ht.v
 have hs1:1≤t.s:=by omega
 have hs6:t.s≤6:=by omega
 have hh24:t.h≤24:=by omega
 have hh1:0<t.h:=by omega
 have hlow:=hI.ltS;have HLOW:=Lib.hid hlow
 have HNS:Hid (∀j,¬t.S (w.heap.size+j)):=fun j h=>by have:=hlow _ h;omega
 have HNB:Hid (∀j,t.bt≠w.heap.size+j):=fun j h=>by have:=hI.ltB;omega
 obtain⟨W0,hW0⟩:∃W0,W0=(w.alloc (.cells #[.int .i64 (a:Int),.int .i64 (b:Int)] 39)).alloc (.cells #[.int .i64 0,.int .i64 0] 35):=⟨_,rfl⟩
 have HF0:Hid (FrS t.S w W0 [[.int .i64 (a:Int),.int .i64 (b:Int)],[.int .i64 0,.int .i64 0]]):=by rw[hW0];exact ((FrS.start w hlow).allocT (by simp) _ _).allocT (by simp) _ _
 have hb0:Below w.heap.size w W0:=by rw[hW0];exact ((Below.refl _ _).alloc (Nat.le_refl _) _).alloc (by simp) _
 have HI0:Hid (UtI t W0):=hI.below hb0;have HA0:=Lib.hid (hA.below hb0)
 have CRES:=Lib.hid fun (W:World) (hx:SL W A t.h q) (hS:∀k,W.heap.size≤k→¬t.S k)=>l10Results_any t.S t.p t.c t.h t.s A t.h ca a b q W hx hca ⟨hq.1,hq.2.1,by have:=hq.2.2;omega⟩ hh24 hh1 r1 r2 (by omega) hS
 have HRP:Hid (∀x∈resultsL q a b,PosP t.h t.c x):=fun x h=>(results_pos (by omega) r1 hq x h).1
 have HVL:=Lib.hid hval
 have hlen:(resultsL q a b).length≤1000000:=Nat.le_trans (results_len (by omega) r1 hq hh24) (by omega)
 have HRO:Hid (rollL t.s q (a,b)=(lstS (sq t.s) (xp t.s) (resultsL q a b)).map fun t=>t.2.2):=rfl
 have CB0:=fun (A':Option Addr) (n c:Nat) (W:World) (hn:n≤1000000) (hI:UtI t W) (hpl:PL t.S W A' n (resultsL q a b))=>l11Best_any t ht (resultsL q a b) HRP.out HVL.out A' n c W hn hI hpl
 have HLEN:=Lib.hid hlen;clear hI hA hv hlow hb0 hq hval r1 r2 r3 hlen ht;have CB1:=Lib.hid CB0;clear CB0;generalize rollL t.s q (a,b)=ro at *
 go_enter Tryz.func211,Tryz.ntmps211
 go_wp2_with (fail)
 rw[← hW0];clear hW0;generalize resultsL q a b=L at *
 have hlow0:Hid (∀k,t.S k→k<W0.heap.size):=fun k hk=>by have:=HLOW.out k hk;have:=HF0.out.z;simp at this;omega
 refine wp_region_early 7 (fun _=>false) u1d Bel (fun _=>True) (u1G t A ca a b L) (by kernel_rfl) (by kernel_rfl) (fun _ _ _ _ _ h=>h) (fun _ _ _ h1 h2=>Bel.trans h1 h2) Bel.rfl' u1_stab (Bel.drew _) trivial (fun i o' _ hX=>by cases hX) ?_ ?_
 ·intro i o hi hX ho a' W hW hIW hfar hdep
  have e0:a'.tmps.getD 0 undef = .pointer (some ⟨t.bt,0,none⟩):=(hfar 0 (fun j _=>by unfold u1d;omega)).trans rfl
  have e1:a'.tmps.getD 1 undef = .slice A t.h ca:=(hfar 1 (fun j _=>by unfold u1d;omega)).trans rfl
  have e5:a'.tmps.getD 5 undef = .pointer (some ⟨w.heap.size,0,none⟩):=(hfar 5 (fun j _=>by unfold u1d;omega)).trans rfl
  have dep:∀j,j<7→Region.waitsFor .any _ i j=true→u1G t A ca a b L j (a'.tmps.getD (u1d j) undef) W:=hdep
  have hi8:i=0∨i=1∨i=2∨i=3∨i=4∨i=5∨i=6:=by omega
  clear hfar hdep hX hi
  rcases hi8 with rfl|rfl|rfl|rfl|rfl|rfl|rfl
  all_goals (simp at ho;subst ho)
  ·exact .inl ⟨.pointer (some ⟨t.bt,0,none⟩),W,by simp only[execOp,Act.eval,e0];go_simp,Bel.rfl' _,trivial,rfl⟩
  ·have d1:a'.tmps.getD 12 undef = .pointer (some ⟨t.bt,0,none⟩):=dep 0 (by omega) (by kernel_rfl)
   exact .inl ⟨.pointer (some ⟨t.bt,0,none⟩),W,by simp only[execOp,Act.eval,d1];go_simp,Bel.rfl' _,trivial,rfl⟩
  ·have d1:a'.tmps.getD 13 undef = .pointer (some ⟨t.bt,0,none⟩):=dep 1 (by omega) (by kernel_rfl)
   exact .inl ⟨.pointer (some ⟨t.bt,0,none⟩),W,by simp only[execOp,Act.eval,d1];go_simp,Bel.rfl' _,trivial,rfl⟩
  ·have d1:a'.tmps.getD 14 undef = .pointer (some ⟨t.bt,0,none⟩):=dep 2 (by omega) (by kernel_rfl)
   have q0:=(HI0.out.below hW).tb 0 _ rfl;have q1:=(HI0.out.below hW).tb 1 _ rfl;have q2:=(HI0.out.below hW).tb 2 _ rfl;have q3:=(HI0.out.below hW).tb 3 _ rfl
   exact .inl ⟨.agg #[.int .i64 t.p,.int .i64 t.c,.int .i64 t.h,.int .i64 t.s],W,by simp only[execOp,Act.eval,d1];go_simp,Bel.rfl' _,trivial,rfl⟩
  ·exact .inl ⟨.slice A t.h ca,W,by simp only[execOp,Act.eval,e1];go_simp,Bel.rfl' _,trivial,rfl⟩
  ·have q0:W.cell? ⟨w.heap.size,0,none⟩=some (.int .i64 (a:Int)):=(HF0.out.below hW).c0 0 rfl
   have q1:W.cell? ⟨w.heap.size,1,none⟩=some (.int .i64 (b:Int)):=(HF0.out.below hW).c0 1 rfl
   exact .inl ⟨.agg #[.int .i64 (a:Int),.int .i64 (b:Int)],W,by simp only[execOp,Act.eval,e5];go_simp,Bel.rfl' _,trivial,rfl⟩
  ·have d1:a'.tmps.getD 15 undef = .agg #[.int .i64 t.p,.int .i64 t.c,.int .i64 t.h,.int .i64 t.s]:=dep 3 (by omega) (by kernel_rfl)
   have d2:a'.tmps.getD 16 undef = .slice A t.h ca:=dep 4 (by omega) (by kernel_rfl)
   have d3:a'.tmps.getD 17 undef = .agg #[.int .i64 (a:Int),.int .i64 (b:Int)]:=dep 5 (by omega) (by kernel_rfl)
   refine .inr ⟨91,#[.agg #[.int .i64 t.p,.int .i64 t.c,.int .i64 t.h,.int .i64 t.s],.slice A t.h ca,.agg #[.int .i64 (a:Int),.int .i64 (b:Int)]],by simp only[execOp,Act.eval,d1,d2,d3];go_simp,?_⟩
   refine (CRES.out W (HA0.out.below hW).1 (fun x hx h=>by have:=hlow0.out x h;have:=Below.size hW;omega)).mono ?_
   rintro e W' ⟨b',off,n',c',rfl,hpl,hc,hb'⟩
   exact⟨_,rfl,hb',trivial,b',off,n',c',rfl,hpl,hc⟩
 intro v W1 hW hIW hg
 have g0:v 0 = .pointer (some ⟨t.bt,0,none⟩):=hg 0 (by omega)
 have g1:v 1 = .pointer (some ⟨t.bt,0,none⟩):=hg 1 (by omega)
 have g2:v 2 = .pointer (some ⟨t.bt,0,none⟩):=hg 2 (by omega)
 have g3:v 3 = .agg #[.int .i64 t.p,.int .i64 t.c,.int .i64 t.h,.int .i64 t.s]:=hg 3 (by omega)
 have g4:v 4 = .slice A t.h ca:=hg 4 (by omega)
 have g5:v 5 = .agg #[.int .i64 (a:Int),.int .i64 (b:Int)]:=hg 5 (by omega)
 obtain⟨rb,roff,n,rc,g6,hpl,hnc⟩:∃b' off n c,v 6 = .slice (some ⟨b',off,none⟩) n c∧PL t.S W1 (some ⟨b',off,none⟩) n L∧n≤c:=hg 6 (by omega)
 simp only[List.drop_succ_cons,List.drop_zero,putV,u1d,g0,g1,g2,g3,g4,g5,g6,Act.put]
 clear g0 g1 g2 g3 g4 g5 g6 hg hIW;have HF1:=Lib.hid (HF0.out.below hW);have HI1:=Lib.hid (HI0.out.below hW)
 have CB:=Lib.hid (CB1.out (some ⟨rb,roff,none⟩) n rc W1 (by rw[← hpl.len];exact HLEN.out) HI1.out hpl)
 have k6:=HI1.out.tb 6 _ rfl;have hbt:=HI1.out.ltB;clear hW hpl HF0 HI0 HA0 CRES CB1;obtain⟨z0,c00,f00,c01,f01,z1,c10,f10,c11,f11⟩:=HF1.out.xf4
 rcases hso:lstS (sq t.s) (xp t.s) L with _|⟨cnt,at',⟨m,d⟩⟩
 ·rw[hso]at CB HRO
  clear hso
  go_wp2_with (fail)
  clear z0 c00 f00 c01 f01 z1 c10 f10 c11 f11
  refine CB.out.mono ?_
  rintro e w2 ⟨hI2,hf2,rfl⟩
  have HF2:=Lib.hid (HF1.out.frm hf2);have HI2:=Lib.hid hI2;have HRO2:Hid (ro=none):=HRO.out;clear HF1 HI1 CB hI2 hf2 k6 hbt;obtain⟨z0,c00,f00,c01,f01,z1,c10,f10,c11,f11⟩:=HF2.out.xf4
  go_wp2_with (fail)
  refine bodyPost_ret (v:=.tuple #[.agg #[.int .i64 0,.int .i64 0],.bool false]) (by simp[results,Tryz.results211,go_sem,c10,c11,z1,f10,f11]) rfl (RetUn.mkN HRO2.out ?_ ?_)
  ·repeat (with_reducible first|exact HI2.out|refine UtI.alloc ?_ _|refine UtI.stored ?_ _ (HNS.out 1) (HNB.out 1))
  ·repeat (with_reducible first|exact HF2.out.f|refine Frm.alloc ?_ _|refine Frm.ownSet ?_ (by omega) _)
 ·rw[hso]at CB HRO
  clear hso
  go_wp2_with (fail)
  clear z0 c00 f00 c01 f01 z1 c10 f10 c11 f11
  refine CB.out.mono ?_
  rintro e w2 ⟨hI2,hf2,rfl⟩
  have HF2:=Lib.hid (HF1.out.frm hf2);have HI2:=Lib.hid hI2;have HRO2:Hid (ro=some ⟨m,d⟩):=HRO.out;clear HF1 HI1 CB hI2 hf2 k6 hbt;obtain⟨z0,c00,f00,c01,f01,z1,c10,f10,c11,f11⟩:=HF2.out.xf4
  go_wp2_with (fail)
  refine bodyPost_ret (v:=.tuple #[.agg #[.int .i64 m,.int .i64 (d:Int)],.bool true]) (by simp[results,Tryz.results211,go_sem,c10,c11,z1,f10,f11]) rfl (RetUn.mkY HRO2.out ?_ ?_)
  ·repeat (with_reducible first|exact HI2.out|refine UtI.alloc ?_ _|refine UtI.stored ?_ _ (HNS.out 1) (HNB.out 1))
  ·repeat (with_reducible first|exact HF2.out.f|refine Frm.alloc ?_ _|refine Frm.ownSet ?_ (by omega) _)
end Go.Proofs.YtkaiilmgemaljaaGreat

/- Part of one proof. There are no conditions. -/
import Derived.Test.YtkaiilmgemaljaaGreatTZt
import Derived.Test.YtkaiilmgemaljaaGreatTZm
import Derived.Test.YtkaiilmgemaljaaGreatTZl
set_option maxHeartbeats 0
set_option linter.unusedVariables false
set_option linter.unusedSimpArgs false
set_option maxRecDepth 100000
namespace Go.Proofs.YtkaiilmgemaljaaGreat
open Go.RowKit Ps Ra Ex
theorem l10Code_yes (p s:Int) (c h:Nat) (A:Option Addr) (n cp:Nat) (xs:List Int) (w:World) (hx:SL w A n xs) (hv:isVar p c h s=true) (hp:PosP h c xs):
  Calls Tryz.prog 99 #[.agg #[.int .i64 p,.int .i64 c,.int .i64 h,.int .i64 s],.slice A n cp] w fun e w'=>e = .returned (.int .i64 0)/\Below w.heap.size w w':=by
 have hvv:=aw hv
 have HF:Hid (Fr w (w.alloc (.cells #[.int .i64 p,.int .i64 c,.int .i64 h,.int .i64 s] 25)) [[.int .i64 p,.int .i64 c,.int .i64 h,.int .i64 s]]):=(Fr.start w).allocT (by simp) _ _
 have HX:=h_ (hx.below HF.out.b)
 have CV:Hid (∀W:World,Calls Tryz.prog 80 #[.agg #[.int .i64 p,.int .i64 c,.int .i64 h,.int .i64 s]] W fun e w'=>e = .returned (.bool true)/\Below W.heap.size W w'):=fun W=>by
  have:=ci p c h s W;rw[hv]at this;exact this
 have CL:Hid (∀W:World,SL W A n xs->Calls Tryz.prog 115 #[.agg #[.int .i64 p,.int .i64 c,.int .i64 h,.int .i64 s],.slice A n cp] W fun e w'=>e = .returned (.bool true)/\Below W.heap.size W w'):=fun W hx=>by
  have h1:=ed p c h s A n cp xs W hx (by omega) (by omega) (by omega)
  rw[fD (by have:=hp.1;omega) hp.2.1 hp.2.2]at h1
  exact h1
 clear hx hv hp hvv
 go_enter Tryz.func99,Tryz.ntmps99
 obtain⟨z0,c00,f00,c01,f01,c02,f02,c03,f03⟩:=HF.out.xf3
 go_wp2_with (fail)
 refine (CV.out _).mono ?_
 rintro e w1 ⟨rfl,hb⟩
 replace HF:=h_ (HF.out.below hb);replace HX:=h_ (HX.out.below hb);clear hb;clear z0 c00 f00 c01 f01 c02 f02 c03 f03;obtain⟨z0,c00,f00,c01,f01,c02,f02,c03,f03⟩:=HF.out.xf3
 go_wp2_with (fail)
 refine (CL.out _ HX.out).mono ?_
 rintro e w2 ⟨rfl,hb⟩
 replace HF:=h_ (HF.out.below hb);clear hb
 go_wp2_with (fail)
 go_ret
 exact⟨rfl,HF.out.b⟩
def RetLC (S:Nat->Prop) (w:World) (ps:List (List Int)) (e:Ending) (w':World):Prop:=∃b off n c,e = .returned (.tuple #[.slice (some ⟨b,off,none⟩) n c,.int .i64 0])/\PL S w' (some ⟨b,off,none⟩) n ps/\n<=c/\Below w.heap.size w w'
theorem eY (S:Nat->Prop) (p s:Int) (c h a b:Nat) (A:Option Addr) (n cp:Nat) (xs:List Int) (w:World) (hx:SL w A n xs) (hc:n<=cp) (hv:isVar p c h s=true) (hr:rollB s a b=true) (hp:PosP h c xs) (hS:∀k,w.heap.size<=k->¬S k):
  Calls Tryz.prog 27 #[.agg #[.int .i64 p,.int .i64 c,.int .i64 h,.int .i64 s],.slice A n cp,.agg #[.int .i64 a,.int .i64 b]] w (RetLC S w (resultsL xs a b)):=by
 have hvv:=aw hv;have hrr:=of_decide_eq_true hr
 have hnh:h=n:=by rw[<- hx.1];exact hp.1.symm
 subst hnh
 have hp15:PosP h 15 xs:=⟨hp.1,hp.2.1,by have:=hp.2.2;omega⟩
 have HF:Hid (Fr w ((w.alloc (.cells #[.int .i64 p,.int .i64 c,.int .i64 h,.int .i64 s] 25)).alloc (.cells #[.int .i64 a,.int .i64 b] 39)) [[.int .i64 p,.int .i64 c,.int .i64 h,.int .i64 s],[.int .i64 a,.int .i64 b]]):=((Fr.start w).allocT (by simp) _ _).allocT (by simp) _ _
 have HX:=h_ (hx.below HF.out.b)
 have CC:=h_ fun (W:World) (hx:SL W A h xs)=>l10Code_yes p s c h A h cp xs W hx hv hp
 have CR:Hid (∀W:World,Calls Tryz.prog 100 #[.agg #[.int .i64 p,.int .i64 c,.int .i64 h,.int .i64 s],.agg #[.int .i64 a,.int .i64 b]] W fun e w'=>e = .returned (.bool true)/\Below W.heap.size W w'):=fun W=>by
  have:=ig p c h s a b W;rw[hr]at this;exact this
 have CL:=h_ fun (W:World) (hx:SL W A h xs) (hw:w.heap.size<=W.heap.size)=>dj S p c h s A h cp a b xs W hx hc hp15 (by omega) (by omega) (by omega) (by omega) (by omega) (fun k hk=>hS k (by omega))
 clear hx hv hp hvv hr hrr hp15 hS
 go_enter Tryz.func27,Tryz.ntmps27
 obtain⟨z0,c00,f00,c01,f01,c02,f02,c03,f03,z1,c10,f10,c11,f11⟩:=HF.out.xf1
 go_wp2_with (fail)
 refine (CC.out _ HX.out).mono ?_
 rintro e w1 ⟨rfl,hb⟩
 replace HF:=h_ (HF.out.below hb);replace HX:=h_ (HX.out.below hb);clear hb;clear z0 c00 f00 c01 f01 c02 f02 c03 f03 z1 c10 f10 c11 f11;obtain⟨z0,c00,f00,c01,f01,c02,f02,c03,f03,z1,c10,f10,c11,f11⟩:=HF.out.xf1
 go_wp2_with (fail)
 refine (CR.out _).mono ?_
 rintro e w2 ⟨rfl,hb⟩
 replace HF:=h_ (HF.out.below hb);replace HX:=h_ (HX.out.below hb);clear hb;clear z0 c00 f00 c01 f01 c02 f02 c03 f03 z1 c10 f10 c11 f11;obtain⟨z0,c00,f00,c01,f01,c02,f02,c03,f03,z1,c10,f10,c11,f11⟩:=HF.out.xf1
 go_wp2_with (fail)
 refine (CL.out _ HX.out HF.out.b.size).mono ?_
 rintro e w3 ⟨b3,o3,n3,c3,rfl,hp3,hc3,hb⟩
 replace HF:=h_ (HF.out.below hb);clear hb
 go_wp2_with (fail)
 refine bodyPost_ret (v:=.tuple #[.slice (some ⟨b3,o3,none⟩) n3 c3,.int .i64 0]) (by simp[results,Tryz.results27,go_sem]) rfl ?_
 exact⟨b3,o3,n3,c3,rfl,hp3,hc3,HF.out.b⟩
theorem gm (A B:Option Addr) (n k ca cb:Nat) (xs ys:List Int) (w:World) (hx:SL w A n xs) (hy:SL w B k ys) (hn:n<=1000) (hk:k<=1000):
  Calls Tryz.prog 25 #[.slice A n ca,.slice B k cb] w fun e w'=>e = .returned (.bool (decide (xs=ys)))/\∃t,w'=w.drewN t:=by
 have hl:=hx.1;have hl2:=hy.1;have HX:=h_ hx;have HY:=h_ hy;clear hx hy
 by_cases hnk:n=k
 ·subst hnk
  have b0:((n:Int) != (n:Int))=false:=by simp
  go_enter Tryz.func25,Tryz.ntmps25
  go_wp2_with (fail)
  go_loopw [5] (fun v5 wr=>∃i:Nat,i<=n/\v5 = .int .i64 i/\Hid (xs.take i=ys.take i)/\∃t,wr=w.drewN t) (fun v5 _=>n-(intOf v5).toNat)
  case atStart=>exact⟨0,by omega,rfl,by simp[Hid],0,rfl⟩
  case round=>
   obtain⟨i,hi,rfl,HE,t,rfl⟩:=hrel
   by_cases hlt:i<n
   ·have hii:(i:Int)<(n:Int):=by omega
    obtain⟨b1,o1,rfl,_,hc1⟩:=HX.out.2 (by omega)
    obtain⟨b2,o2,rfl,_,hc2⟩:=HY.out.2 (by omega)
    have y1:=hc1 i hlt;have y2:=hc2 i hlt
    by_cases he:xs.getD i 0=ys.getD i 0
    ·have HE2:Hid (xs.take (i+1)=ys.take (i+1)):=by
      unfold Hid
      rw[ar xs 0 (by omega),ar ys 0 (by omega),HE.out,he]
     have bb:(xs.getD i 0 != ys.getD i 0)=false:=bne_eq_false_iff_eq.2 he;clear hc1 hc2 he;generalize xs.getD i 0=u1 at *;generalize ys.getD i 0=u2 at *
     go_wp2_with (fail)
     go_quiet (fail)
     go_wp2_with (fail)
     go_roundw
     case rel=>exact⟨i+1,by omega,by go_num,HE2.out,_,rfl⟩
     case measure=>(simp[intOf])<;>omega
    ·have HD:Hid (decide (xs=ys)=false):=decide_eq_false fun h=>he (by rw[h])
     have bb:(xs.getD i 0 != ys.getD i 0)=true:=bne_iff_ne.2 he;clear hc1 hc2 he;generalize xs.getD i 0=u1 at *;generalize ys.getD i 0=u2 at *
     go_wp2_with (fail)
     go_quiet (fail)
     go_wp2_with (fail)
     go_ret
     exact⟨by rw[HD.out];rfl,_,by simp only[World.drewN,Nat.add_assoc];rfl⟩
   ·have HD:Hid (decide (xs=ys)=true):=decide_eq_true (by have:=HE.out;rwa [List.take_of_length_le (by omega),List.take_of_length_le (by omega)]at this)
    go_wp2_with (fail)
    go_ret
    exact⟨by rw[HD.out];rfl,_,rfl⟩
 ·have HD:Hid (decide (xs=ys)=false):=decide_eq_false fun h=>hnk (by rw[<- hl,<- hl2,h])
  have b0:((n:Int) != (k:Int))=true:=bne_iff_ne.2 (by omega)
  go_enter Tryz.func25,Tryz.ntmps25
  go_wp2_with (fail)
  go_ret
  exact⟨by rw[HD.out];rfl,0,rfl⟩
end Go.Proofs.YtkaiilmgemaljaaGreat

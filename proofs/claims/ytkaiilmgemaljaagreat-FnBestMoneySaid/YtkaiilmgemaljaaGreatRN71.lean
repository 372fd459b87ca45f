/- Part of one proof. There are no conditions. -/
import Derived.Test.YtkaiilmgemaljaaGreatRZk
import Derived.Test.YtkaiilmgemaljaaGreatRZm
import Derived.Test.YtkaiilmgemaljaaGreatRD2
import Derived.Test.YtkaiilmgemaljaaGreatRM22
import Derived.Test.YtkaiilmgemaljaaGreatRN14
import Derived.Test.YtkaiilmgemaljaaGreatRE2
import Derived.Test.YtkaiilmgemaljaaGreatRE5
import Derived.Test.YtkaiilmgemaljaaGreatRD17
import Derived.Test.YtkaiilmgemaljaaGreatRM23
import Derived.Test.YtkaiilmgemaljaaGreatRD7
import Derived.Test.YtkaiilmgemaljaaGreatRZa
set_option linter.unusedVariables false
set_option linter.unusedSimpArgs false
set_option maxHeartbeats 0
set_option maxRecDepth 100000
namespace Go.Proofs.YtkaiilmgemaljaaGreat
open Go.RowKit Ps Ra Ex
theorem valid_yes {B n:Int} {d:Nat} (h:Val B ⟨n,d⟩):valB B n d=true:=fO.2 h
theorem exC_set:∀(xs:List E) (i:Nat) (m:Int) (d:Nat),((exC xs).set (i*2) (.int .i64 m)).set (i*2+1) (.int .i64 (d:Int))=exC (xs.set i ⟨m,d⟩)
 | [],i,m,d=>by simp[exC]
 | x::xs,0,m,d=>by simp[exC]
 | x :: xs, i + 1, m, d => by
   have ih := exC_set xs i m d
   rw [show (i + 1) * 2 = i * 2 + 2 by omega]
   simp only [exC, List.flatMap_cons, List.cons_append, List.nil_append, List.set_cons_succ] at ih ⊢
   rw [ih]
theorem OwnE.below {w w':World} {base:Nat} {v:Value} {xs:List E} (h:OwnE w base v xs) (hb:Below w.heap.size w w'):OwnE w' base v xs:=own_below h hb
theorem OwnE.elv {w:World} {base:Nat} {A:Option Addr} {n c:Nat} {xs:List E} (h:OwnE w base (.slice A n c) xs):EL (fun _=>False) w A n xs/\n<=c:=by
 obtain⟨A',c',hv,hel,hc⟩:=h.el;injection hv with h1 h2 h3;subst h1 h2 h3
 exact⟨hel,hc⟩
theorem OwnE.stored {w:World} {base:Nat} {g n c:Nat} {xs:List E} (h:OwnE w base (.slice (some ⟨g,0,none⟩) n c) xs) (j:Nat) (m:Int) (d:Nat):
  OwnE ((w.setCell ⟨g,j*2,none⟩ (.int .i64 m)).setCell ⟨g,j*2+1,none⟩ (.int .i64 (d:Int))) base (.slice (some ⟨g,0,none⟩) n c) (xs.set j ⟨m,d⟩):=by
 have hn:=h.elv.1.1;unfold OwnE at h ⊢;rw[hn]at h;have h1:=(World.ownsRow.stored h (j*2) (.int .i64 m)).1;have h2:=(World.ownsRow.stored h1 (j*2+1) (.int .i64 (d:Int))).1;rw[exC_set]at h2
 rw[show (xs.set j ⟨m,d⟩).length=n by rw[List.length_set,hn]]
 exact h2
theorem Cel.frm {S:Nat->Prop} {W W':World} {g:Nat} {cs:List Value} (h:Cel W g cs) (hf:Frm S W W') (hn:¬S g):Cel W' g cs:=
 ⟨Nat.lt_of_lt_of_le h.lt hf.size,fun i x hx=>hf.cell' (h.cell i x hx) hn,fun i x hx=>(aV hf h.lt hn).trans (h.froz i x hx)⟩
def StbO (O:World->Nat->Value->Prop):Prop:=∀W W' b v,O W b v->Bel W W'->O W' b v
def RowT (O:World->Nat->Value->Prop) (lo:Nat) (rest:List Value):RP:=fun v W=>∃u b,v = .tuple (u::rest).toArray/\lo<=b/\O W b u
def RowE (O:World->Nat->Value->Prop) (lo:Nat):RP:=fun v W=>∃b,lo<=b/\O W b v
theorem stb_rowT {O:World->Nat->Value->Prop} {lo:Nat} {rest:List Value} (h:StbO O):Stb (RowT O lo rest):=fun _ _ _ ⟨u,b,h1,h2,h3⟩ hb=>⟨u,b,h1,h2,h _ _ _ _ h3 hb⟩
theorem stb_rowE {O:World->Nat->Value->Prop} {lo:Nat} (h:StbO O):Stb (RowE O lo):=fun _ _ _ ⟨b,h2,h3⟩ hb=>⟨b,h2,h _ _ _ _ h3 hb⟩
theorem stO_I {xs:List Int} {e:TypeId}:StbO (fun W b v=>OwnS W b e v xs):=fun _ _ _ _ h hb=>h.below hb
theorem l07All_any (p c h:Int) (s:Nat) (w:World) (hs6:s<=6):
  Calls Tryz.prog 81 #[.agg #[.int .i64 p,.int .i64 c,.int .i64 h,.int .i64 s]] w (RetR w (ad s)):=by
 obtain⟨i0,hi,hz0,hz1,hz2⟩:=info_parts Tryz.infoR
 have HF0:=h_ (((Fr.start w).allocT (by simp) #[.int .i64 p,.int .i64 c,.int .i64 h,.int .i64 s] 25))
 have HF:Hid (Fr w ((w.alloc (.cells #[.int .i64 p,.int .i64 c,.int .i64 h,.int .i64 s] 25)).alloc (.cells #[] 39)) [[.int .i64 p,.int .i64 c,.int .i64 h,.int .i64 s]]):=HF0.out.alloc _
 have HO:Hid (OwnR ((w.alloc (.cells #[.int .i64 p,.int .i64 c,.int .i64 h,.int .i64 s] 25)).alloc (.cells #[] 39)) (w.heap.size+1) (.slice (some ⟨w.heap.size+1,0,none⟩) 0 0) (ad 0)):=by
  have:=fW (w.alloc (.cells #[.int .i64 p,.int .i64 c,.int .i64 h,.int .i64 s] 25)) (base:=w.heap.size+1) 39 (z:=2) (n:=0) #[] (by simp) (by unfold maxLen;omega) rfl
  show World.ownsRow _ _ _ 2 _ 0 []
  simpa using this
 clear HF0
 go_enter Tryz.func81,Tryz.ntmps81
 go_wp2_with (fail)
 go_loopw [3,4,5] (fun v va vb wr=>∃a:Nat,a<=s/\va = .int .i64 ((a:Int)+1)/\OwnR wr (w.heap.size+1) v (ad a)/\Fr w wr [[.int .i64 p,.int .i64 c,.int .i64 h,.int .i64 s]]) (fun _ va _ _=>s+1-(intOf va).toNat)
 case atStart=>exact⟨0,Nat.zero_le _,rfl,HO.out,HF.out⟩
 case round=>
  obtain⟨a,ha,rfl,hO,hF⟩:=hrel;have HOa:=h_ hO;have HFa:=h_ hF;clear hO hF;obtain⟨z0,c00,f00,c01,f01,c02,f02,c03,f03⟩:=HFa.out.xf2
  by_cases hlt:a<s
  ·
   have hlti:(a:Int)+1<=(s:Int):=by omega
   have HL:=h_ (ch (a:=a) (by omega))
   go_wp2_with (fail)
   obtain⟨wo,rfl⟩:∃wo:World,wo=wr:=⟨_,rfl⟩
   go_loopw [3,5] (fun v vb wi=>∃b:Nat,b<=a+1/\vb = .int .i64 ((b:Int)+1)/\OwnR wi (w.heap.size+1) v (ad a++rowN (a+1) b)/\Fr w wi [[.int .i64 p,.int .i64 c,.int .i64 h,.int .i64 s]]) (fun _ vb _=>a+2-(intOf vb).toNat)
   case atStart=>exact⟨0,Nat.zero_le _,rfl,by rw[show ad a++rowN (a+1) 0=ad a by simp[rowN]];exact HOa.out,HFa.out⟩
   case round=>
    clear z0 c00 c01 c02 c03 f00 f01 f02 f03;obtain⟨b,hb,rfl,hO,hF⟩:=hrel;have HOb:=h_ hO;have HFb:=h_ hF;clear hO hF;obtain⟨z0,c00,f00,c01,f01,c02,f02,c03,f03⟩:=HFb.out.xf2
    by_cases hbl:b<a+1
    ·
     have hbi:(b:Int)+1<=(a:Int)+1:=by omega
     have HLb:Hid ((ad a++rowN (a+1) b).length<=28):=by unfold Hid;rw[List.length_append,cS];have:=HL.out;omega
     go_wp2_with (at_builtin;refine wpList_append_own _ rfl _ _ 32 rfl (w.heap.size+1) 39 i0 (.agg #[.int .i64 0,.int .i64 0]) 2 16 Tryz.underlying32 hi hz0 hz1 hz2 rfl (by decide) _ _ _ rfl (row_alloc HOb.out _) ⟨wr.heap.size,0,none⟩ 1 1 [.int .i64 ((a:Int)+1),.int .i64 ((b:Int)+1)] rfl rfl (gE _ _ _ _) (dB _ _) (by have:=HLb.out;unfold maxLen;omega) (by have:=HLb.out;omega) (by have:=HFb.out.z;simp at this;simp;omega) ?_;intro v' w1 hown hgrow _)
     have HF2:=h_ ((HFb.out.alloc _).grow hgrow (row_alloc HOb.out _) (by simp))
     have HO2:Hid (OwnR w1 (w.heap.size+1) v' (ad a++rowN (a+1) (b+1))):=by
      unfold Hid OwnR
      rw[show rowN (a+1) (b+1)=rowN (a+1) b++[(a+1,b+1)] from rfl,<- List.append_assoc,gG,List.length_append]
      exact hown
     clear hown hgrow
     go_wp2_with (fail)
     go_roundw
     case rel=>exact⟨b+1,by omega,by go_num,HO2.out,HF2.out⟩
     case measure=>simp[intOf];omega
    ·
     have hba:b=a+1:=by omega
     subst hba
     go_wp2_with (fail)
     go_roundw
     case rel=>exact⟨a+1,by omega,by go_num,HOb.out,HFb.out⟩
     case measure=>simp[intOf];omega
  ·
   have has:a=s:=by omega
   subst has
   have HR:Hid (RetR w (ad a) (.returned _) wr):=⟨_,rfl,cB HOa.out (by omega),HFa.out.b⟩
   go_wp2_with (fail)
   go_ret
   exact HR.out
theorem j8 (p c h:Int) (s:Nat) (w:World) (hv:isVar p c h s=true):
  Calls Tryz.prog 18 #[.agg #[.int .i64 p,.int .i64 c,.int .i64 h,.int .i64 s]] w fun e w'=>∃v,e = .returned v/\OwnR w' w.heap.size v (ad s)/\Below w.heap.size w w':=by
 have hs6:s<=6:=by have:=(aj hv).2.2.2.2.2.2.2;omega
 have CV:Hid (∀W:World,Calls Tryz.prog 80 #[.agg #[.int .i64 p,.int .i64 c,.int .i64 h,.int .i64 s]] W fun e w'=>e = .returned (.bool true)/\Below W.heap.size W w'):=fun W=>by
  have:=aw p c h s W;rwa [hv]at this
 have HF0:Hid (Fr w (w.alloc (.cells #[.int .i64 p,.int .i64 c,.int .i64 h,.int .i64 s] 25)) [[.int .i64 p,.int .i64 c,.int .i64 h,.int .i64 s]]):=(Fr.start w).allocT (by simp) _ _
 clear hv
 go_enter Tryz.func18,Tryz.ntmps18
 go_wp2_with (fail)
 refine (CV.out _).mono ?_
 rintro e w1 ⟨rfl,hb⟩
 have HF1:=h_ (HF0.out.below hb);clear hb HF0;obtain⟨z0,c00,f00,c01,f01,c02,f02,c03,f03⟩:=HF1.out.xf2
 go_wp2_with (fail)
 refine (l07All_any p c h s w1 hs6).mono ?_
 rintro e w2 ⟨v,rfl,ho,hb⟩
 have HR:Hid (∃u,Ending.returned v = .returned u/\OwnR w2 w.heap.size u (ad s)/\Below w.heap.size w w2):=⟨v,rfl,cB ho HF1.out.b.size,(HF1.out.below hb).b⟩;clear ho hb HF1;clear z0 c00 f00 c01 f01 c02 f02 c03 f03
 go_wp2_with (fail)
 go_ret
 exact HR.out
theorem jo (p c h:Int) (s n c0:Nat) (A:Option Addr) (xs:List E) (x:E) (w:World) (hv:isVar p c h s=true) (hx:EL (fun _=>False) w A n xs) (hn:(ad s).length=n) (hval:∀y∈xs,Val (sq s) y) (hm:meanE (sq s) (ad s) xs=some x):
  Calls Tryz.prog 20 #[.agg #[.int .i64 p,.int .i64 c,.int .i64 h,.int .i64 s],.slice A n c0] w fun e w'=>e = .returned (.tuple #[.agg #[.int .i64 x.num,.int .i64 (x.depth:Int)],.int .i64 0])/\Below w.heap.size w w':=by
 have hs1:1<=s:=by have:=(aj hv).2.2.2.2.2.2.1;omega
 have hs6:s<=6:=by have:=(aj hv).2.2.2.2.2.2.2;omega
 obtain⟨hq1,hq36,_⟩:=sq_bd hs1 hs6
 have hn21:n<=21:=by rw[<- hn];exact ch hs6
 have CV:Hid (∀W:World,Calls Tryz.prog 80 #[.agg #[.int .i64 p,.int .i64 c,.int .i64 h,.int .i64 s]] W fun e w'=>e = .returned (.bool true)/\Below W.heap.size W w'):=fun W=>by
  have:=aw p c h s W;rwa [hv]at this
 have C9:Hid (∀y∈xs,∀W:World,Calls Tryz.prog 86 #[.agg #[.int .i64 p,.int .i64 c,.int .i64 h,.int .i64 s],.agg #[.int .i64 y.num,.int .i64 (y.depth:Int)]] W fun e w'=>e = .returned (.bool true)/\Below W.heap.size W w'):=fun y hy W=>by
  have hyd:y.depth<50:=aX hq1 (hval y hy)
  have:=dm p c h y.num s y.depth W hs1 hs6 (by omega);rwa [valid_yes (hval y hy)]at this
 have CM:Hid (∀W:World,EL (fun _=>False) W A n xs->Calls Tryz.prog 88 #[.agg #[.int .i64 p,.int .i64 c,.int .i64 h,.int .i64 s],.slice A n c0] W (fun e w'=>e = .returned (.tuple #[.agg #[.int .i64 x.num,.int .i64 (x.depth:Int)],.bool true])/\Below W.heap.size W w')):=fun W hW=>by
  have:=i3 p c h s n c0 A xs W hs1 hs6 hW hn hval;rw[hm]at this;exact this
 have HF0:Hid (Fr w ((w.alloc (.cells #[.int .i64 p,.int .i64 c,.int .i64 h,.int .i64 s] 25)).alloc (.cells #[.int .i64 0,.int .i64 0] 35)) [[.int .i64 p,.int .i64 c,.int .i64 h,.int .i64 s],[.int .i64 0,.int .i64 0]]):=
  ((Fr.start w).allocT (by simp) _ _).allocT (by simp) _ _
 have HX:=h_ hx;have hxl:xs.length=n:=hx.1;have HXL:=h_ hxl;have HN:=h_ hn;clear hx hval hxl hv hm hn hq1 hq36
 go_enter Tryz.func20,Tryz.ntmps20
 go_wp2_with (fail)
 refine (CV.out _).mono ?_
 rintro e w1 ⟨rfl,hb⟩
 have HF1:=h_ (HF0.out.below hb);clear hb HF0;obtain⟨z0,c00,f00,c01,f01,c02,f02,c03,f03,z1,c10,f10,c11,f11⟩:=HF1.out.xf0
 go_wp2_with (fail)
 clear z0 c00 f00 c01 f01 c02 f02 c03 f03 z1 c10 f10 c11 f11
 go_loopw [6] (fun vi wr=>∃k:Nat,k<=n/\vi = .int .i64 k/\Fr w wr [[.int .i64 p,.int .i64 c,.int .i64 h,.int .i64 s],[.int .i64 0,.int .i64 0]]) (fun vi _=>n-(intOf vi).toNat)
 case atStart=>exact⟨0,Nat.zero_le _,rfl,HF1.out⟩
 case round=>
  obtain⟨k,hk,rfl,hF⟩:=hrel;have HFr:=h_ hF;clear hF HF1;obtain⟨z0,c00,f00,c01,f01,c02,f02,c03,f03,z1,c10,f10,c11,f11⟩:=HFr.out.xf0;have HXr:=h_ (HX.out.below HFr.out.b)
  by_cases hlt:k<n
  ·have hki:(k:Int)<(n:Int):=by omega
   obtain⟨b2,off2,rfl,hb2,q3,q4⟩:=HXr.out.at hlt
   have C9y:=h_ (C9.out _ (ao xs ⟨0,0⟩ (by rw[HXL.out];exact hlt)))
   generalize xs.getD k ⟨0,0⟩=y at *
   go_wp2_with (fail)
   first|refine ab (by kernel_rfl) (by kernel_rfl) ?_|refine ac (by kernel_rfl) (by kernel_rfl) ?_
   repeat (first|go_big_quiet_step (first|(go_at_call 86;exact more_call (C9y.out _))|fail)|quiet_step (first|(go_at_call 86;exact more_call (C9y.out _))|fail))
   refine wpQuiet_nil ?_
   intro _ hw'
   obtain⟨tq,hw''⟩:=hw';subst hw'';have HZ:=h_ (HFr.out.more tq);clear z0 c00 f00 c01 f01 c02 f02 c03 f03 z1 c10 f10 c11 f11
   go_wp2_with (fail)
   go_roundw
   case rel=>exact⟨k+1,by omega,by go_num,HZ.out⟩
   case measure=>simp[intOf];omega
  ·have hkn:k=n:=by omega
   subst hkn
   go_wp2_with (fail)
   refine (eF p c h s _ hs6).mono ?_
   rintro e w2 ⟨v1,rfl,ho,hb⟩
   obtain⟨A1,c1,rfl,hR,_⟩:=ho.read (S:=fun _=>False) (fun _ _ h=>h)
   have HF2:=h_ (HFr.out.below hb);have HX2:=h_ (HXr.out.below hb);rw[HN.out];clear ho hb hR;clear z0 c00 f00 c01 f01 c02 f02 c03 f03 z1 c10 f10 c11 f11;obtain⟨z0,c00,f00,c01,f01,c02,f02,c03,f03,z1,c10,f10,c11,f11⟩:=HF2.out.xf0
   go_wp2_with (fail)
   refine (CM.out w2 HX2.out).mono ?_
   rintro e w3 ⟨rfl,hb⟩
   have HF3:=h_ ((HF2.out.below hb).alloc (.cells #[.int .i64 x.num,.int .i64 (x.depth:Int)] 35))
   have HG3:Hid (Fr w3 (w3.alloc (.cells #[.int .i64 x.num,.int .i64 (x.depth:Int)] 35)) [[.int .i64 x.num,.int .i64 (x.depth:Int)]]):=(Fr.start w3).allocT (by simp) _ _
   have hz3:w.heap.size+2<=w3.heap.size:=by have:=(HF2.out.below hb).z;simpa using this
   clear hb;clear z0 c00 f00 c01 f01 c02 f02 c03 f03 z1 c10 f10 c11 f11;obtain⟨z0,c00,f00,c01,f01,c02,f02,c03,f03,z1,c10,f10,c11,f11⟩:=HF3.out.xf0;obtain⟨gz0,gc00,gf00,gc01,gf01⟩:=HG3.out.xf3
   go_wp2_with (fail)
   refine bodyPost_ret (v:=.tuple #[.agg #[.int .i64 x.num,.int .i64 (x.depth:Int)],.int .i64 0]) (by simp[results,Tryz.results20,go_sem,c10,c11,z1,f10,f11]) rfl ⟨rfl,?_⟩
   repeat (first|exact HF3.out.b|refine stw ?_ (by omega)|refine alw ?_ (by omega))
theorem eql_exact (a b a' b':Int) (w:World):(binOp .eql 35 (.agg #[.int .i64 a,.int .i64 b]) (.agg #[.int .i64 a',.int .i64 b'])).run Tryz.prog w = .ok (.bool (decide (a=a'/\b=b'))) w:=by
 have u3:=Tryz.underlying2
 have hS:Tryz.prog.underlying 35=some (.struct (Tryz.prog.fieldsOf 35)):=by kernel_rfl
 have hp:Tryz.prog.stoodInHeld 35=false:=by kernel_rfl
 rw[run_eql_struct,show (10000:Nat)=9999+1 from rfl,run_equalIn_agg w 9999 35 _ _ hS hp]
 simp only[Program.fieldsOf,Tryz.underlying35]
 go_simp
 by_cases h1:a=a'<;>by_cases h2:b=b'<;>simp[h1,h2]
theorem kQ (A:Option Addr) (n c:Nat) (w:World):Calls Tryz.prog 14 #[.slice A n c] w fun e w'=>e = .returned (.bool (decide (4096<n)))/\w=w':=by
 go_enter Tryz.func14,Tryz.ntmps14
 go_wp2_with (fail)
 go_ret
 exact⟨by by_cases h:4096<n<;>simp[h]<;>omega,rfl⟩
open Go.RowKit Mo Ps Ra Ex
theorem codeL_nat {p c h s m:Int} {own other:List Int} {v o:Int} {more:Bool} (H:codeL p c h s m own other v o more=0):∃c' h' s' K:Nat,c=c'/\h=h'/\s=s'/\m=two K/\K<=10/\isVar p c' h' s'=true/\1<=s'/\s'<=6/\PosP h' c' own/\PosP h' c' other/\CbOk K (v,o)/\more=true:=by
 obtain⟨hv,hr,h1,h2,hc,hm,_⟩:=dq H;have hvv:=aj hv
 obtain⟨c',rfl⟩:∃c':Nat,c=c':=⟨c.toNat,by omega⟩
 obtain⟨h',rfl⟩:∃h':Nat,h=h':=⟨h.toNat,by omega⟩
 obtain⟨s',rfl⟩:∃s':Nat,s=s':=⟨s.toNat,by omega⟩
 obtain⟨K,hK,rfl⟩:=dh hr
 exact⟨c',h',s',K,rfl,rfl,rfl,rfl,hK,hv,by omega,by omega,bA h1,bA h2,gN hc,hm⟩
theorem numR_ok {o:Option E} {x d:Int} (H:(x,d,(0:Int))=numR o):∃e,o=some e/\x=e.num/\d=(e.depth:Int):=by
 cases o with
 | none=>unfold numR at H;simp at H
 | some e=>unfold numR at H;simp at H;exact⟨e,rfl,H.1,H.2⟩
theorem iO {s ra rb:Int} (h:rollB s ra rb=true):∃a b:Nat,ra=a/\rb=b/\1<=a/\(a:Int)<=s/\1<=b/\b<=a:=by
 have:=of_decide_eq_true h
 exact⟨ra.toNat,rb.toNat,by omega,by omega,by omega,by omega,by omega,by omega⟩
def rollNo (a b:Nat):Nat:=a*(a-1) / 2+b-1
def rollOk:Bool:=(List.range 7).all fun s=>(List.range 7).all fun a=>(List.range 7).all fun b=>!(decide (1<=a)&&decide (a<=s)&&decide (1<=b)&&decide (b<=a))||(decide ((ad s).getD (rollNo a b) (0,0)=(a,b))&&decide (rollNo a b<(ad s).length))
theorem rollOk_yes:rollOk=true:=by decide +kernel
theorem rollNo_at {s a b:Nat} (hs:s<=6) (h1:1<=a) (h2:a<=s) (h3:1<=b) (h4:b<=a):(ad s).getD (rollNo a b) (0,0)=(a,b)/\rollNo a b<(ad s).length:=by
 have h:=rollOk_yes;unfold rollOk at h
 have h:=List.all_eq_true.1 (List.all_eq_true.1 (List.all_eq_true.1 h s (List.mem_range.2 (by omega))) a (List.mem_range.2 (by omega))) b (List.mem_range.2 (by omega))
 simpa[h1,h2,h3,h4]using h
theorem js (p c h s:Int) (a b:Nat) (w:World) (hv:isVar p c h s=true) (ha1:1<=a) (ha2:(a:Int)<=s) (hb1:1<=b) (hb2:b<=a):
  Calls Tryz.prog 83 #[.agg #[.int .i64 p,.int .i64 c,.int .i64 h,.int .i64 s],.agg #[.int .i64 a,.int .i64 b]] w fun e w'=>e = .returned (.int .i64 (rollNo a b:Nat))/\Below w.heap.size w w':=by
 have HB:Hid (Below w.heap.size w ((w.alloc (.cells #[.int .i64 p,.int .i64 c,.int .i64 h,.int .i64 s] 25)).alloc (.cells #[.int .i64 a,.int .i64 b] 39))):=((Below.refl _ _).alloc (Nat.le_refl _) _).alloc (by simp) _
 have hs:=aj hv
 have hro:rollB s a b=true:=decide_eq_true (by omega)
 have CR:Hid (∀W:World,Calls Tryz.prog 113 #[.agg #[.int .i64 p,.int .i64 c,.int .i64 h,.int .i64 s],.agg #[.int .i64 a,.int .i64 b]] W fun e w'=>e = .returned (.bool true)/\Below W.heap.size W w'):=fun W=>by have:=jT p c h s a b W;rwa [hv,hro]at this
 obtain⟨x,hx⟩:∃x:Int,x=(a:Int):=⟨_,rfl⟩;rw[<- hx]at CR HB ⊢
 have hxx:x=1\/x=2\/x=3\/x=4\/x=5\/x=6:=by omega
 clear hv hs hro ha2
 have HX:Hid (a=x.toNat):=by unfold Hid;omega
 have hb3:(0:Int)<=(b:Int):=by omega
 have hb4:(b:Int)<=6:=by omega
 have HB2:=h_ hb2;clear hx hb2 ha1
 rcases hxx with rfl|rfl|rfl|rfl|rfl|rfl
 all_goals
  go_enter Tryz.func83,Tryz.ntmps83
  go_wp2_with (go_at_call 113;(with_reducible refine (more_first (CR.out _)).mono ?_);rintro e w' ⟨rfl,t,rfl⟩)
  go_ret
  have hx:=HX.out
  exact⟨kc (by rw[hx];simp[rollNo];omega),by first|exact blw HB.out (Nat.le_refl _)|exact HB.out⟩
open Go.RowKit Ps Ra Ex Go.Maps
theorem map_cell {P:Program} {k:TypeId} {w:World} {b i:Nat} {U:List Lit} {f:Lit->Option Value} (h:MapV P k w b U f):w.cell? ⟨b,i,none⟩=none:=by
 obtain⟨D,⟨es,clock,hb,_⟩,_⟩:=h
 simp[World.cell?,hb]
theorem race_cell {t:RT} {T:Nat->Prop} {W:World} {g:Nat} {x:Value} {cs:List Value} (h:RaceI t T W) (hc:Cel W g (x::cs)):¬t.S g:=by
 obtain⟨f1,f2,f3,h1,h2,h3,_⟩:=h.maps;have hx:=hc.cell 0 x rfl
 rintro (rfl|rfl|rfl)
 ·rw[map_cell h1]at hx;cases hx
 ·rw[map_cell h2]at hx;cases hx
 ·rw[map_cell h3]at hx;cases hx
def BP (o:Option (Nat×Nat×E)) (h:Nat) (l:List (List Int)):RP:=fun v W=>match o with
 | none=>v = .slice none 0 0
 | some (_,a,_)=>∃b off c,v = .slice (some ⟨b,off,none⟩) h c/\h<=c/\SL W (some ⟨b,off,none⟩) h (l.getD a [])
theorem stb_bp (o:Option (Nat×Nat×E)) (h:Nat) (l:List (List Int)):Stb (BP o h l):=fun v W W' hp hb=>by
 unfold BP at *
 split at hp
 ·exact hp
 ·obtain⟨b,off,c,h1,h2,h3⟩:=hp;exact⟨b,off,c,h1,h2,h3.below hb⟩
theorem BP.lt {o:Option (Nat×Nat×E)} {h:Nat} {l:List (List Int)} {u:Value} {W:World} {b off n m:Nat} (hp:BP o h l u W) (h0:0<h) (hu:u = .slice (some ⟨b,off,none⟩) n m):b<W.heap.size:=by
 unfold BP at hp
 split at hp
 ·rw[hp]at hu;cases hu
 ·obtain⟨b',off',c,h1,_,h3⟩:=hp
  rw[h1]at hu;injection hu with hu;injection hu with hu;injection hu with hu;obtain⟨b2,o2,h4,h5,_⟩:=h3.2 h0;injection h4 with h4;injection h4 with h4
  omega
def oN:Option (Nat×Nat×E)->Int
 | none=>0
 | some (_,_,x)=>x.num
def oD:Option (Nat×Nat×E)->Int
 | none=>0
 | some (_,_,x)=>(x.depth:Int)
def oB:Option (Nat×Nat×E)->Bool
 | none=>false
 | some _=>true
structure JB (V:World) (c h s:Nat) (o:Option (Nat×Nat×E)) (l:List (List Int)) (x ok:Value) (ev:Nat->Option Value) (L:Nat->Bool) (vs:Nat->Value) (W:World):Prop where
 b:Below V.heap.size V W
 cl:(L 8=true->L 7=true)/\(L 9=true->L 8=true)
 eq:∀i y,i<13->L i=true->ev i=some y->vs i=y
 al:L 12=true->∃g,vs 12 = .pointer (some ⟨g,0,none⟩)/\V.heap.size<=g/\Cel W g [.int .i64 0,.int .i64 0]
 ra:L 1=true->L 7=false->∃(t:RT) (l1 hi:Nat),vs 1 = .pointer (some ⟨t.bt,0,none⟩)/\t.c=c/\t.h=h/\t.s=s/\t.Ok/\RaceI t (fun k=>t.S k\/(V.heap.size<=k/\k<l1)\/hi<=k) W/\hi<=W.heap.size/\V.heap.size<=l1/\l1<=hi/\(∀k,t.S k->l1<=k)/\
  ∀g,L 12=true->vs 12 = .pointer (some ⟨g,0,none⟩)->g<l1\/hi<=g
 bt:∀i,i=7\/i=8\/i=9->L i=true->∃u,(vs i=if i=9 then u else .tuple #[u,x,ok])/\BP o h l u W/\∀b off n m g,u = .slice (some ⟨b,off,none⟩) n m->L 12=true->vs 12 = .pointer (some ⟨g,0,none⟩)->b≠g
section
variable {V W W':World} {c h s:Nat} {o:Option (Nat×Nat×E)} {l:List (List Int)} {x ok:Value} {ev:Nat->Option Value} {L L':Nat->Bool} {vs vs':Nat->Value} {i:Nat} {v:Value}
theorem JB.alloc (H:JB V c h s o l x ok ev L vs W) (T:TypeId) (hu:Upd 13 12 (.pointer (some ⟨W.heap.size,0,none⟩)) L vs L' vs') (he:ev 12=none) (h0:0<h):JB V c h s o l x ok ev L' vs' (W.alloc (.cells #[.int .i64 0,.int .i64 0] T)):=by
 obtain⟨u1,u2,u3⟩:=hu;have hb:Below W.heap.size W (W.alloc (.cells #[.int .i64 0,.int .i64 0] T)):=Bel.alloc W _
 have e7:=u3 7 (by omega) (by omega)
 have e1:=u3 1 (by omega) (by omega)
 have c8:=u3 8 (by omega) (by omega)
 have c9:=u3 9 (by omega) (by omega)
 have c7:=u3 7 (by omega) (by omega)
 refine⟨H.b.trans (hb.mono H.b.size),⟨fun h=>by rw[c7.1];rw[c8.1]at h;exact H.cl.1 h,fun h=>by rw[c8.1];rw[c9.1]at h;exact H.cl.2 h⟩,fun k y hk hl he'=>?_,fun hl=>⟨_,u2,H.b.size,Cel.new W #[.int .i64 0,.int .i64 0] T⟩,fun hl hl7=>?_,fun k hk hl=>?_⟩
 ·by_cases ek:k=12
  ·subst ek;rw[he]at he';cases he'
  ·rw[(u3 k hk ek).2];exact H.eq k y hk (by rw[<- (u3 k hk ek).1];exact hl) he'
 ·obtain⟨t,l1,hi,a1,a2,a3,a4,a5,a6,a7,a8,a8',a9,_⟩:=H.ra (by rw[<- e1.1];exact hl) (by rw[<- e7.1];exact hl7)
  refine⟨t,l1,hi,by rw[e1.2];exact a1,a2,a3,a4,a5,a6.below hb,Nat.le_trans a7 hb.size,a8,a8',a9,fun g _ hg2=>.inr ?_⟩
  rw[u2]at hg2;injection hg2 with hg2;injection hg2 with hg2;injection hg2 with hg2
  omega
 ·have ek:=u3 k (by omega) (by omega)
  obtain⟨u,b1,b2,_⟩:=H.bt k hk (by rw[<- ek.1];exact hl)
  refine⟨u,by rw[ek.2];exact b1,stb_bp o h l _ _ _ b2 hb,fun b off n m g hu _ hg2 hbg=>?_⟩
  rw[u2]at hg2;injection hg2 with hg2;injection hg2 with hg2;injection hg2 with hg2;have hlt:=BP.lt b2 h0 hu
  omega
end
end Go.Proofs.YtkaiilmgemaljaaGreat

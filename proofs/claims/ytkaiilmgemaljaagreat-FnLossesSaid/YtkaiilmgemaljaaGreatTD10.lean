/- Part of one proof. There are no conditions. -/
import Derived.Test.YtkaiilmgemaljaaGreatTD7
import Derived.Test.YtkaiilmgemaljaaGreatTD11
set_option maxHeartbeats 0
set_option linter.unusedVariables false
set_option linter.unusedSimpArgs false
set_option maxRecDepth 100000
namespace Go.Proofs.YtkaiilmgemaljaaGreat
open Go.RowKit
def rlF (bs:List Int) (q:Int×Nat) (s:Int):(Int×Int)×(Int×Nat):=
 let x1:=nx bs q (max 1 s);let q1:=ns bs q (max 1 s);let x2:=nx bs q1 (1+x1);let q2:=ns bs q1 (1+x1)
 if nx bs q2 24=0 then ((1+x2-1,1+x1),ns bs q2 24) else ((1+x1,1+x2),ns bs q2 24)
def RetRl (g:Nat) (C:Option Addr) (n c:Nat) (bs:List Int) (W:World) (r:(Int×Int)×(Int×Nat)) (e:Ending) (W':World):Prop:=
 e = .returned (.agg #[.int .i64 r.1.1,.int .i64 r.1.2])/\SrcG W' g C n c bs r.2/\Frm (fun j=>j=g) W W'
theorem ij (g:Nat) (C:Option Addr) (n c:Nat) (bs:List Int) (q:Int×Nat) (p cc h s:Int) (W:World) (hs:SrcG W g C n c bs q) (hs7:s<=7):
  Calls Tryz.prog 89 #[.pointer (some ⟨g,0,none⟩),.agg #[.int .i64 p,.int .i64 cc,.int .i64 h,.int .i64 s]] W (RetRl g C n c bs W (rlF bs q s)):=by
 have hg:=hs.lt
 have HF0:Hid (FrS (fun j=>j=g) W ((W.alloc (.cells #[.int .i64 p,.int .i64 cc,.int .i64 h,.int .i64 s] 25)).alloc (.cells #[.int .i64 0,.int .i64 0] 39)) [[.int .i64 p,.int .i64 cc,.int .i64 h,.int .i64 s],[.int .i64 0,.int .i64 0]]):=((FrS.start W (fun k hk=>by rw[hk];exact hg)).allocT (by simp) _ _).allocT (by simp) _ _
 have HS0:=h_ ((hs.alloc (.cells #[.int .i64 p,.int .i64 cc,.int .i64 h,.int .i64 s] 25)).alloc (.cells #[.int .i64 0,.int .i64 0] 39));obtain⟨R,hR⟩:∃R,R=rlF bs q s:=⟨_,rfl⟩;rw[<- hR];unfold rlF at hR
 dsimp only at hR
 obtain⟨M,hM⟩:∃M,M=max 1 s:=⟨_,rfl⟩
 have hMb:1<=M/\M<=7:=by omega
 rw[<- hM]at hR;have hx1:=nx_bd bs q M;obtain⟨x1,e1⟩:∃x,x=nx bs q M:=⟨_,rfl⟩;obtain⟨q1,e2⟩:∃x,x=ns bs q M:=⟨_,rfl⟩;rw[<- e1]at hx1;rw[<- e1,<- e2]at hR;have hx2:=nx_bd bs q1 (1+x1);obtain⟨x2,e3⟩:∃x,x=nx bs q1 (1+x1):=⟨_,rfl⟩;obtain⟨q2,e4⟩:∃x,x=ns bs q1 (1+x1):=⟨_,rfl⟩;rw[<- e3]at hx2;rw[<- e3,<- e4]at hR;obtain⟨x3,e5⟩:∃x,x=nx bs q2 24:=⟨_,rfl⟩;obtain⟨q3,e6⟩:∃x,x=ns bs q2 24:=⟨_,rfl⟩;rw[<- e5,<- e6]at hR
 have N1:Hid (∀W:World,SrcG W g C n c bs q->Calls Tryz.prog 154 #[.pointer (some ⟨g,0,none⟩),.int .i64 M] W fun e W'=>e = .returned (.int .i64 x1)/\SrcG W' g C n c bs q1/\Frm (fun j=>j=g) W W'):=fun W h=>by rw[e1,e2];exact bB h (by omega)
 have N2:Hid (∀W:World,SrcG W g C n c bs q1->Calls Tryz.prog 154 #[.pointer (some ⟨g,0,none⟩),.int .i64 (1+x1)] W fun e W'=>e = .returned (.int .i64 x2)/\SrcG W' g C n c bs q2/\Frm (fun j=>j=g) W W'):=fun W h=>by rw[e3,e4];exact bB h (by omega)
 have N3:Hid (∀W:World,SrcG W g C n c bs q2->Calls Tryz.prog 154 #[.pointer (some ⟨g,0,none⟩),.int .i64 24] W fun e W'=>e = .returned (.int .i64 x3)/\SrcG W' g C n c bs q3/\Frm (fun j=>j=g) W W'):=fun W h=>by rw[e5,e6];exact bB h (by omega)
 have HR:=h_ hR;clear hs hR e1 e2 e3 e4 e5 e6
 go_enter Tryz.func89,Tryz.ntmps89
 obtain⟨z0,c00,f00,c01,f01,c02,f02,c03,f03⟩:=HF0.out.xf3
 go_wp2_with (fail)
 (try rw[<- hM])
 refine (N1.out _ HS0.out).mono ?_
 rintro e w1 ⟨rfl,hs,hf⟩
 clear z0 c00 f00 c01 f01 c02 f02 c03 f03;have HS1:=h_ hs;have HF1:=h_ (HF0.out.frm hf);clear hs hf HS0 HF0 N1 hM
 go_wp2_with (fail)
 refine (N2.out _ HS1.out).mono ?_
 rintro e w2 ⟨rfl,hs,hf⟩
 have HS2:=h_ hs;have HF2:=h_ (HF1.out.frm hf);clear hs hf HS1 HF1 N2
 go_wp2_with (fail)
 refine (N3.out _ HS2.out).mono ?_
 rintro e w3 ⟨rfl,hs,hf⟩
 have HS3:=h_ hs;have HF3:=h_ (HF2.out.frm hf);clear hs hf HS2 HF2 N3
 have z1:=HF3.out.l1 (by simp)
 have c10:=HF3.out.c1 0 rfl;have f10:=HF3.out.f1 0 rfl;have c11:=HF3.out.c1 1 rfl;have f11:=HF3.out.f1 1 rfl
 by_cases h3:x3=0
 focus
  replace HR:Hid (R=((1+x2-1,1+x1),q3)):=by have:=HR.out;rw[if_pos h3]at this;exact this
  have b3:(x3 == 0)=true:=by simp[h3]
  clear h3
  go_wp2_with (fail)
  refine bodyPost_ret (v:=.agg #[.int .i64 (1+x2-1),.int .i64 (1+x1)]) (by simp[results,Tryz.results89,go_sem,z1,c10,c11,f10,f11]) rfl ?_
  refine ?za
 rotate_left
 focus
  replace HR:Hid (R=((1+x1,1+x2),q3)):=by have:=HR.out;rw[if_neg h3]at this;exact this
  have b3:(x3 == 0)=false:=by simp[h3]
  clear h3
  go_wp2_with (fail)
  refine bodyPost_ret (v:=.agg #[.int .i64 (1+x1),.int .i64 (1+x2)]) (by simp[results,Tryz.results89,go_sem,z1,c10,c11,f10,f11]) rfl ?_
  refine ?zb
 rotate_left
 case za|zb=>
  rw[HR.out]
  refine⟨rfl,?_,?_⟩
  ·repeat (with_reducible first|exact HS3.out|refine SrcG.set ?_ (by omega) _)
  ·repeat (with_reducible first|exact HF3.out.f|refine Frm.ownSet ?_ (by omega) _)
end Go.Proofs.YtkaiilmgemaljaaGreat

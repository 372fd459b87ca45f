/- Part of one proof. There are no conditions. -/
import Derived.Test.YtkaiilmgemaljaaGreatTN53
import Derived.Test.YtkaiilmgemaljaaGreatTZv
import Derived.Test.YtkaiilmgemaljaaGreatTZl
import Derived.Test.YtkaiilmgemaljaaGreatTU3
import Derived.Test.YtkaiilmgemaljaaGreatTD7
import Derived.Test.YtkaiilmgemaljaaGreatTN55
set_option linter.unusedVariables false
set_option linter.unusedSimpArgs false
set_option maxRecDepth 10000
namespace Go.Proofs.YtkaiilmgemaljaaGreat
open Go.RowKit Ps Ra Ex
def minE (B:Int) (x y:E):Option E:=addE B x (negE y)
theorem iG (p c h xn yn:Int) (s xd yd:Nat) (w:World) (hs1:1<=s) (hs6:s<=6) (hx:Val (sq s) ⟨xn,xd⟩) (hy:Val (sq s) ⟨yn,yd⟩):
  Calls Tryz.prog 85 #[.agg #[.int .i64 p,.int .i64 c,.int .i64 h,.int .i64 s],.agg #[.int .i64 xn,.int .i64 xd],.agg #[.int .i64 yn,.int .i64 yd]] w (RetE w (minE (sq s) ⟨xn,xd⟩ ⟨yn,yd⟩)):=by
 have hy1 : -1000000000000000000<=yn:=hy.1;have hy2:yn<=1000000000000000000:=hy.2.1
 rcases hm:minE (sq s) ⟨xn,xd⟩ ⟨yn,yd⟩with _|⟨m,d⟩
 focus
  have AD:Hid (∀W:World,Calls Tryz.prog 130 #[.agg #[.int .i64 p,.int .i64 c,.int .i64 h,.int .i64 s],.agg #[.int .i64 xn,.int .i64 xd],.agg #[.int .i64 (-yn),.int .i64 yd]] W fun e w'=>e = .returned (.tuple #[.agg #[.int .i64 0,.int .i64 0],.bool false])/\Below W.heap.size W w'):=fun W=>by
   have:=bQ p c h xn (-yn) s xd yd W hs1 hs6 hx (ec hy);rw[show addE (sq s) ⟨xn,xd⟩ ⟨-yn,yd⟩=minE (sq s) ⟨xn,xd⟩ ⟨yn,yd⟩from rfl,hm]at this;exact this
  refine ?za
 rotate_left
 focus
  have AD:Hid (∀W:World,Calls Tryz.prog 130 #[.agg #[.int .i64 p,.int .i64 c,.int .i64 h,.int .i64 s],.agg #[.int .i64 xn,.int .i64 xd],.agg #[.int .i64 (-yn),.int .i64 yd]] W fun e w'=>e = .returned (.tuple #[.agg #[.int .i64 m,.int .i64 d],.bool true])/\Below W.heap.size W w'):=fun W=>by
   have:=bQ p c h xn (-yn) s xd yd W hs1 hs6 hx (ec hy);rw[show addE (sq s) ⟨xn,xd⟩ ⟨-yn,yd⟩=minE (sq s) ⟨xn,xd⟩ ⟨yn,yd⟩from rfl,hm]at this;exact this
  refine ?zb
 rotate_left
 case' za|zb=>
  have HF:Hid (Fr w ((((w.alloc (.cells #[.int .i64 p,.int .i64 c,.int .i64 h,.int .i64 s] 25)).alloc (.cells #[.int .i64 xn,.int .i64 xd] 35)).alloc (.cells #[.int .i64 yn,.int .i64 yd] 35)).alloc (.cells #[.int .i64 0,.int .i64 0] 35)) [[.int .i64 p,.int .i64 c,.int .i64 h,.int .i64 s],[.int .i64 xn,.int .i64 xd],[.int .i64 yn,.int .i64 yd],[.int .i64 0,.int .i64 0]]):=
   ((((Fr.start w).allocT (by simp) _ _).allocT (by simp) _ _).allocT (by simp) _ _).allocT (by simp) _ _
  clear hx hy hm
  go_enter Tryz.func85,Tryz.ntmps85
  go_wp2_with (fail)
  refine (more_first (AD.out _)).mono ?_
  rintro e w' ⟨rfl,t,rfl⟩
  have HZ:=h_ (HF.out.more t);generalize more ((((w.alloc (.cells #[.int .i64 p,.int .i64 c,.int .i64 h,.int .i64 s] 25)).alloc (.cells #[.int .i64 xn,.int .i64 xd] 35)).alloc (.cells #[.int .i64 yn,.int .i64 yd] 35)).alloc (.cells #[.int .i64 0,.int .i64 0] 35)) t=Z at *;obtain⟨z0,c00,f00,c01,f01,c02,f02,c03,f03,z1,c10,f10,c11,f11,z2,c20,f20,c21,f21,z3,c30,f30,c31,f31⟩:=HZ.out.xf0
  go_wp2_with (fail)
 case za=>
  refine bodyPost_ret (v:=.tuple #[.agg #[.int .i64 0,.int .i64 0],.bool false]) (by simp[results,Tryz.results85,go_sem,c30,c31,z3,f30,f31]) rfl (RetE.mkN rfl ?_)
  repeat (first|exact HZ.out.b|refine stw ?_ (by omega))
 case zb=>
  refine bodyPost_ret (v:=.tuple #[.agg #[.int .i64 m,.int .i64 d],.bool true]) (by simp[results,Tryz.results85,go_sem,c30,c31,z3,f30,f31]) rfl (RetE.mkY rfl ?_)
  repeat (first|exact HZ.out.b|refine stw ?_ (by omega))
def RetEs (w:World) (r:List E×Int) (e:Ending) (w':World):Prop:=∃v base,e = .returned (.tuple #[v,.int .i64 r.2])/\w.heap.size<=base/\OwnE w' base v r.1/\Below w.heap.size w w'
theorem RetEs.no {w w':World} {r:List E×Int} {k:Int} (hr:r=([],k)) (hb:Below w.heap.size w w'):RetEs w r (.returned (.tuple #[.slice none 0 0,.int .i64 k])) w':=by
 subst hr;exact⟨_,w.heap.size,rfl,Nat.le_refl _,World.ownsRow_nil _ _ _ _,hb⟩
theorem RetEs.yes {w w':World} {r:List E×Int} {xs:List E} {v:Value} {base:Nat} (hr:r=(xs,0)) (h0:w.heap.size<=base) (ho:OwnE w' base v xs) (hb:Below w.heap.size w w'):RetEs w r (.returned (.tuple #[v,.int .i64 0])) w':=by
 subst hr;exact⟨_,base,rfl,h0,ho,hb⟩
theorem frm_low {S:Nat->Prop} {w wr w2:World} (hb:Below w.heap.size w wr) (hf:Frm S wr w2) (hS:∀k,S k->w.heap.size<=k):Below w.heap.size w w2:=hb.trans (hf.below hb.size hS)
def Small (v:Int×Int×Int×Int):Prop:=((v.2.1<=3/\v.2.2.1<=3)\/16<=v.2.1\/(v.2.1=15/\v.2.2.1=6))/\v.2.2.2<=3
theorem dvF_small (bs:List Int) (q:Int×Nat):(((dvF bs q).1.2.1<=3/\(dvF bs q).1.2.2.1<=3)\/16<=(dvF bs q).1.2.1\/((dvF bs q).1.2.1=15/\(dvF bs q).1.2.2.1=6)):=by
 have h1:=nx_bd bs q 3;have h2:=nx_bd bs (ns bs q 3) 3;have h3:=nx_bd bs (ns bs (ns bs q 3) 3) 3;have h5:=nx_bd bs (ns bs (ns bs (ns bs (ns bs q 3) 3) 3) 24) 2;unfold dvF
 dsimp only
 split
 ·dsimp only;omega
 ·split
  ·dsimp only;omega
  ·split
   ·dsimp only;omega
   ·dsimp only;omega
theorem ir (bs:List Int):Small (dR bs).1:=by
 have h:=dvF_small bs (seedK bs 64,0);have h2:=nx_bd bs (dvF bs (seedK bs 64,0)).2 2
 refine⟨h,?_⟩
 show minS bs (dvF bs (seedK bs 64,0)).2 (dvF bs (seedK bs 64,0)).1.2.2.2<=3
 unfold minS
 omega
theorem wys_615:¬wys 6 15<=500:=by decide +kernel
theorem race_small {p c h s:Int} {own other:List Int} (hsm:Small (p,c,h,s)) (H:codeT p c h s [own,other]=0):∃c' h' s':Nat,c=c'/\h=h'/\s=s'/\isVar p c' h' s'=true/\PosP h' c' own/\PosP h' c' other/\1<=sq s'/\sq s'<=36/\pw (sq s') 11<=ao/\turns own<=5/\turns other<=5:=by
 obtain⟨hv,h1,h2,h3⟩:=de H;have hvv:=aw hv
 obtain⟨c',rfl⟩:∃c':Nat,c=c':=⟨c.toNat,by omega⟩
 obtain⟨h',rfl⟩:∃h':Nat,h=h':=⟨h.toNat,by omega⟩
 obtain⟨s',rfl⟩:∃s':Nat,s=s':=⟨s.toNat,by omega⟩
 rw[Int.toNat_natCast,Int.toNat_natCast]at h3
 have hq:=sq_bd (s:=s') (by omega) (by omega)
 obtain⟨hs1,hs2⟩:=hsm
 simp only at hs1 hs2
 have hch:c'<=3/\h'<=3:=by
  rcases hs1 with hs1|hs1|hs1
  ·omega
  ·omega
  ·obtain⟨rfl,rfl⟩:c'=15/\h'=6:=by omega
   exact absurd h3 wys_615
 have hp1:=ba h1;have hp2:=ba h2
 have hpip:∀q,PosP h' c' q->turns q<=5:=by
  intro q hq
  have h9:=pips_hi hq
  have h10:(h':Int)*c'<=3*3:=Int.mul_le_mul (by omega) (by omega) (by omega) (by omega)
  unfold turns
  omega
 refine⟨c',h',s',rfl,rfl,rfl,hv,hp1,hp2,hq.1,hq.2.1,?_,hpip _ hp1,hpip _ hp2⟩
 have hs9:sq s'<=9:=by
  have h10:(s':Int)*s'<=3*3:=Int.mul_le_mul (by omega) (by omega) (by omega) (by omega)
  unfold sq
  omega
 exact Int.le_trans (gj hq.1 hs9 11) (by decide)
theorem codeW_both {p c h s:Int} {own other:List Int} (H:codeW p c h s own other true=0):codeT p c h s [own,other]=0/\own.sum≠0/\other.sum≠0/\codeW p c h s own other false=0:=by
 have hT:=codeW_T H;unfold codeW at H ⊢;rw[if_pos hT]at H;rw[if_pos hT]
 split at H
 ·cases H
 ·rename_i hn
  refine⟨hT,fun h=>hn (.inr ⟨rfl,.inl h⟩),fun h=>hn (.inr ⟨rfl,.inr h⟩),?_⟩
  rw[if_neg]
  rintro (⟨h,_⟩|⟨h,_⟩)
  ·exact hn (.inr ⟨rfl,.inl h⟩)
  ·cases h
end Go.Proofs.YtkaiilmgemaljaaGreat

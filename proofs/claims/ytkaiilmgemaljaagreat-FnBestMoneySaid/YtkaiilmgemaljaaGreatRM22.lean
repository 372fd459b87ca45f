/- Part of one proof. There are no conditions. -/
import Derived.Test.YtkaiilmgemaljaaGreatRD7
import Derived.Test.YtkaiilmgemaljaaGreatRZm
import Derived.Test.YtkaiilmgemaljaaGreatRZb
import Derived.Test.YtkaiilmgemaljaaGreatRD2
import Derived.Test.YtkaiilmgemaljaaGreatRM6
set_option linter.unusedVariables false
set_option linter.unusedSimpArgs false
set_option maxHeartbeats 0
set_option maxRecDepth 100000
/- Contract of the check of a variant and positions with tables, the program's. There are no conditions. -/
namespace Go.Proofs.YtkaiilmgemaljaaGreat
open Go.RowKit Ps
def PLx (w:World) (A:Option Addr) (n:Nat) (ps:List (List Int)):Prop:=
 ps.length=n/\(0<n->∃b off,A=some ⟨b,off,none⟩/\b<w.heap.size/\∀k,k<n->∃B m c,w.cell? ⟨b,off+k,none⟩=some (.slice B m c)/\SL w B m (ps.getD k []))
theorem PLx.below {w w':World} {A:Option Addr} {n:Nat} {ps:List (List Int)} (h:PLx w A n ps) (hb:Below w.heap.size w w'):PLx w' A n ps:=by
 refine⟨h.1,fun hn=>?_⟩
 obtain⟨b,off,hA,hlt,hc⟩:=h.2 hn
 refine⟨b,off,hA,Nat.lt_of_lt_of_le hlt hb.size,fun k hk=>?_⟩
 obtain⟨B,m,c,h1,h2⟩:=hc k hk
 exact⟨B,m,c,keep_cell h1 hb,h2.below hb⟩
end Go.Proofs.YtkaiilmgemaljaaGreat
/- Contract of the program's WinChance. There are no conditions. -/
namespace Go.Proofs.YtkaiilmgemaljaaGreat
open Go.RowKit Ps Ra Ex
def numR (o:Option E):Int×Int×Int:=match o with
 | none=>(0,0,3)
 | some e=>(e.num,(e.depth:Int),0)
def RetN (w:World) (r:Int×Int×Int) (e:Ending) (w':World):Prop:=e = .returned (.tuple #[.agg #[.int .i64 r.1,.int .i64 r.2.1],.int .i64 r.2.2])/\Below w.heap.size w w'
theorem RetN.mk' {w w':World} {r:Int×Int×Int} {a b c:Int} (hr:r=(a,b,c)) (hb:Below w.heap.size w w'):RetN w r (.returned (.tuple #[.agg #[.int .i64 a,.int .i64 b],.int .i64 c])) w':=by subst hr;exact⟨rfl,hb⟩
theorem SQ.of_sl {S:Nat->Prop} {w:World} {A:Option Addr} {n:Nat} {xs:List Int} (h:SL w A n xs) (hS:∀k,S k->w.heap.size<=k):SQ S w A n xs:=
 ⟨h,fun hn b off s hA hb=>by
  obtain⟨b',off',hA',hlt,_⟩:=h.2 hn;rw[hA]at hA';injection hA' with hA';injection hA' with h1 h2 h3;subst h1;have:=hS b hb
  omega⟩
end Go.Proofs.YtkaiilmgemaljaaGreat
/- Contracts of the reference's check of a race and of its WinChance. There are no conditions. -/
namespace Go.Proofs.YtkaiilmgemaljaaGreat
open Go.RowKit Ps Ra Ex
end Go.Proofs.YtkaiilmgemaljaaGreat
/- Contract of the reference's WinChance. There are no conditions. -/
namespace Go.Proofs.YtkaiilmgemaljaaGreat
open Go.RowKit Ps Ra Ex
end Go.Proofs.YtkaiilmgemaljaaGreat
/- The statement FnExactWinChance, the law's walk. There are no conditions. -/
namespace Go.Proofs.YtkaiilmgemaljaaGreat
open Go.RowKit Ps Ra Ex
open Go.RowKit Mo Ps Ra Ex
def gamI (h c m:Int):Bool:=(List.range 11).any fun K=>decide (m=two K)&&gamB h.toNat c.toNat K
theorem two_inj10:∀a,a<11->∀b,b<11->two a=two b->a=b:=by decide
theorem d7 {h c K:Nat} (hK:K<=10):gamI h c (two K)=gamB h c K:=by
 unfold gamI
 simp only[Int.toNat_natCast]
 cases hg:gamB h c K with
 | true=>exact List.any_eq_true.2 ⟨K,List.mem_range.2 (by omega),by simp[hg]⟩
 | false =>
   rw [List.any_eq_false]
   intro x hx he
   simp only [Bool.and_eq_true, decide_eq_true_eq] at he
   have := two_inj10 K (by omega) x (List.mem_range.1 hx) he.1
   subst this; rw [hg] at he
   cases he.2
def codeL (p c h s m:Int) (own other:List Int) (v o:Int) (more:Bool):Int:=
 if isVar p c h s=true/\rulB m=true then (if posB h c own=true/\posB h c other=true/\cubB m v o=true/\more=true then (if gamI h c m=true then 0 else 3) else 2) else 1
def codeM (p c h s m:Int) (own other:List Int) (v o:Int) (more:Bool):Int:=
 if codeL p c h s m own other v o more=0 then (if own.sum=0\/other.sum=0 then 5 else 0) else codeL p c h s m own other v o more
theorem gQ {p c h s m:Int} {own other:List Int} {v o:Int} {more:Bool} (h1:¬(isVar p c h s=true/\rulB m=true)):codeL p c h s m own other v o more=1:=if_neg h1
theorem dx {p c h s m:Int} {own other:List Int} {v o:Int} {more:Bool} (h1:isVar p c h s=true) (h2:rulB m=true) (h3:¬(posB h c own=true/\posB h c other=true/\cubB m v o=true/\more=true)):codeL p c h s m own other v o more=2:=by
 unfold codeL;rw[if_pos ⟨h1,h2⟩,if_neg h3]
theorem kL {p c h s m:Int} {own other:List Int} {v o:Int} {more:Bool} (h1:isVar p c h s=true) (h2:rulB m=true) (h3:posB h c own=true/\posB h c other=true/\cubB m v o=true/\more=true):codeL p c h s m own other v o more=if gamI h c m=true then 0 else 3:=by
 unfold codeL;rw[if_pos ⟨h1,h2⟩,if_pos h3]
theorem da {p c h s m:Int} {own other:List Int} {v o:Int} {more:Bool} {k:Int} (hh:codeL p c h s m own other v o more=k) (hk:k≠0):codeM p c h s m own other v o more=k:=by
 unfold codeM;rw[if_neg (by rw[hh];exact hk),hh]
theorem dq {p c h s m:Int} {own other:List Int} {v o:Int} {more:Bool} (H:codeL p c h s m own other v o more=0):isVar p c h s=true/\rulB m=true/\posB h c own=true/\posB h c other=true/\cubB m v o=true/\more=true/\gamI h c m=true:=by
 unfold codeL at H
 split at H
 ·rename_i h1
  split at H
  ·rename_i h2
   split at H
   ·rename_i h3
    exact⟨h1.1,h1.2,h2.1,h2.2.1,h2.2.2.1,h2.2.2.2,h3⟩
   ·cases H
  ·cases H
 ·cases H
theorem dt (p c h s:Int) (A:Option Addr) (n cp:Nat) (xs:List Int) (w:World) (hx:SL w A n xs) (hv:isVar p c h s=true):
  Calls Tryz.prog 37 #[.agg #[.int .i64 p,.int .i64 c,.int .i64 h,.int .i64 s],.slice A n cp] w fun e w'=>e = .returned (.bool (posB h c xs))/\Below w.heap.size w w':=by
 have HB:Hid (Below w.heap.size w (w.alloc (.cells #[.int .i64 p,.int .i64 c,.int .i64 h,.int .i64 s] 25))):=(Below.refl _ _).alloc (Nat.le_refl _) _;have HX:=h_ (hx.alloc (.cells #[.int .i64 p,.int .i64 c,.int .i64 h,.int .i64 s] 25));have hp:=aj hv
 have CV':Hid (∀W:World,Calls Tryz.prog 80 #[.agg #[.int .i64 p,.int .i64 c,.int .i64 h,.int .i64 s]] W fun e w'=>e = .returned (.bool true)/\Below W.heap.size W w'):=fun W=>by
  have:=aw p c h s W;rw[hv]at this;exact this
 have CVA:=h_ fun (W:World) (hx:SL W A n xs)=>ic p c h s A n cp xs W hx (by omega) (by omega) (by omega)
 obtain⟨g,hg⟩:∃g,g=posB h c xs:=⟨_,rfl⟩;rw[<- hg]at CVA ⊢;clear hx hv hp hg
 go_enter Tryz.func37,Tryz.ntmps37
 go_wp2_with (first
  | (go_at_call 80;(with_reducible refine (more_first (CV'.out _)).mono ?_);rintro e w' ⟨rfl,t,rfl⟩)
  | (go_at_call 115;(refine (more_call (CVA.out _ (HX.out.more _))).mono ?_);rintro e w' ⟨rfl,ta,rfl⟩))
 go_ret
 exact⟨by first|rfl|(cases g<;>rfl),by first|exact blw HB.out (Nat.le_refl _)|exact HB.out⟩
theorem dy (p c h s m:Int) (b j:Bool) (A B:Option Addr) (n k ca cb:Nat) (own other:List Int) (v o:Int) (mr:Bool) (w:World) (hA:SL w A n own) (hB:SL w B k other):
  Calls Tryz.prog 102 #[.agg #[.int .i64 p,.int .i64 c,.int .i64 h,.int .i64 s],.agg #[.int .i64 m,.bool b,.bool j],.slice A n ca,.slice B k cb,.agg #[.int .i64 v,.int .i64 o],.bool mr] w fun e w'=>e = .returned (.int .i64 (codeM p c h s m own other v o mr))/\Below w.heap.size w w':=by
 have HB:Hid (Below w.heap.size w (((w.alloc (.cells #[.int .i64 p,.int .i64 c,.int .i64 h,.int .i64 s] 25)).alloc (.cells #[.int .i64 m,.bool b,.bool j] 53)).alloc (.cells #[.int .i64 v,.int .i64 o] 55))):=(((Below.refl _ _).alloc (Nat.le_refl _) _).alloc (by simp) _).alloc (by simp;omega) _
 have HX:=h_ (hA.below HB.out);have HY:=h_ (hB.below HB.out);clear hA hB
 rcases hv:isVar p c h s with _|_
 focus
  have HR:Hid (codeM p c h s m own other v o mr=1):=da (gQ fun h0=>by rw[hv]at h0;cases h0.1) (by decide)
  have CV':Hid (∀W:World,Calls Tryz.prog 145 #[.agg #[.int .i64 p,.int .i64 c,.int .i64 h,.int .i64 s]] W fun e w'=>e = .returned (.bool false)/\Below W.heap.size W w'):=fun W=>by
   have:=aJ p c h s W;rw[hv]at this;exact this
  clear hv
  refine ?zb
 rotate_left
 focus
  rcases hr:rulB m with _|_
  focus
   have HR:Hid (codeM p c h s m own other v o mr=1):=da (gQ fun h0=>by rw[hr]at h0;cases h0.2) (by decide)
   have CV':Hid (∀W:World,Calls Tryz.prog 145 #[.agg #[.int .i64 p,.int .i64 c,.int .i64 h,.int .i64 s]] W fun e w'=>e = .returned (.bool true)/\Below W.heap.size W w'):=fun W=>by
    have:=aJ p c h s W;rw[hv]at this;exact this
   have CR':Hid (∀W:World,Calls Tryz.prog 186 #[.agg #[.int .i64 m,.bool b,.bool j]] W fun e w'=>e = .returned (.bool false)/\Below W.heap.size W w'):=fun W=>by
    have:=IsCubeRules_any m b j W;rw[hr]at this;exact this
   clear hv hr
   refine ?za
  rotate_left
  focus
   have hp:=aj hv
   have CV':Hid (∀W:World,Calls Tryz.prog 145 #[.agg #[.int .i64 p,.int .i64 c,.int .i64 h,.int .i64 s]] W fun e w'=>e = .returned (.bool true)/\Below W.heap.size W w'):=fun W=>by
    have:=aJ p c h s W;rw[hv]at this;exact this
   have CR':Hid (∀W:World,Calls Tryz.prog 186 #[.agg #[.int .i64 m,.bool b,.bool j]] W fun e w'=>e = .returned (.bool true)/\Below W.heap.size W w'):=fun W=>by
    have:=IsCubeRules_any m b j W;rw[hr]at this;exact this
   have CVA:=h_ fun (W:World) (hx:SL W A n own)=>gm p c h s A n ca own W hx (by omega) (by omega) (by omega)
   have CVB:=h_ fun (W:World) (hx:SL W B k other)=>gm p c h s B k cb other W hx (by omega) (by omega) (by omega)
   rcases h1:posB h c own with _|_
   focus
    have HR:Hid (codeM p c h s m own other v o mr=2):=da (dx hv hr fun h0=>by rw[h1]at h0;cases h0.1) (by decide)
    rw[h1]at CVA;clear hv hr h1 hp
    refine ?ze
   rotate_left
   focus
    rcases h2:posB h c other with _|_
    focus
     have HR:Hid (codeM p c h s m own other v o mr=2):=da (dx hv hr fun h0=>by rw[h2]at h0;cases h0.2.1) (by decide)
     rw[h1]at CVA;rw[h2]at CVB;clear hv hr h1 h2 hp
     refine ?zf
    rotate_left
    focus
     rcases hcu:cubB m v o with _|_
     focus
      have HR:Hid (codeM p c h s m own other v o mr=2):=da (dx hv hr fun h0=>by rw[hcu]at h0;cases h0.2.2.1) (by decide)
      have CC':Hid (∀W:World,Calls Tryz.prog 119 #[.agg #[.int .i64 m,.bool b,.bool j],.agg #[.int .i64 v,.int .i64 o]] W fun e w'=>e = .returned (.bool false)/\Below W.heap.size W w'):=fun W=>by
       have:=jU m b j v o W;rw[hcu]at this;exact this
      rw[h1]at CVA;rw[h2]at CVB;clear hv hr h1 h2 hp hcu
      refine ?zc
     rotate_left
     focus
      have CC':Hid (∀W:World,Calls Tryz.prog 119 #[.agg #[.int .i64 m,.bool b,.bool j],.agg #[.int .i64 v,.int .i64 o]] W fun e w'=>e = .returned (.bool true)/\Below W.heap.size W w'):=fun W=>by
       have:=jU m b j v o W;rw[hcu]at this;exact this
      cases mr
      focus
       have HR:Hid (codeM p c h s m own other v o false=2):=da (dx (more:=false) hv hr fun h0=>Bool.noConfusion h0.2.2.2) (by decide)
       rw[h1]at CVA;rw[h2]at CVB;clear hv hr h1 h2 hp hcu
       refine ?zg
      rotate_left
      focus
       obtain⟨K,hK,rfl⟩:=dh hr
       obtain⟨c',rfl⟩:∃c':Nat,c=c':=⟨c.toNat,by omega⟩
       obtain⟨h',rfl⟩:∃h':Nat,h=h':=⟨h.toNat,by omega⟩
       obtain⟨s',rfl⟩:∃s':Nat,s=s':=⟨s.toNat,by omega⟩
       have HL:Hid (codeL p c' h' s' (two K) own other v o true=if gamB h' c' K=true then 0 else 3):=by
        unfold Hid;rw[kL hv hr ⟨h1,h2,hcu,rfl⟩,d7 hK]
       have CG0:=h_ fun (W:World)=>jj p c' h' s' K b j W hv hK
       have HP1:=h_ (bA h1);have HP2:=h_ (bA h2);rw[h1]at CVA;rw[h2]at CVB
       have HN1:Hid (n<=24):=by have:=HX.out.1;have:=HP1.out.1;unfold Hid;omega
       have HN2:Hid (k<=24):=by have:=HY.out.1;have:=HP2.out.1;unfold Hid;omega
       rcases hg:gamB h' c' K with _|_
       focus
        have HR:Hid (codeM p c' h' s' (two K) own other v o true=3):=da (by rw[HL.out,hg];rfl) (by decide)
        have CG':Hid (∀W:World,Calls Tryz.prog 187 #[.agg #[.int .i64 p,.int .i64 c',.int .i64 h',.int .i64 s'],.agg #[.int .i64 (two K),.bool b,.bool j]] W fun e w'=>e = .returned (.bool false)/\Below W.heap.size W w'):=fun W=>by
         have:=CG0.out W;rwa [hg]at this
        clear hv hr h1 h2 hp hcu hg HL CG0;generalize two K=m at *
        refine ?zd
       rotate_left
       ·have CG':Hid (∀W:World,Calls Tryz.prog 187 #[.agg #[.int .i64 p,.int .i64 c',.int .i64 h',.int .i64 s'],.agg #[.int .i64 (two K),.bool b,.bool j]] W fun e w'=>e = .returned (.bool true)/\Below W.heap.size W w'):=fun W=>by
         have:=CG0.out W;rwa [hg]at this
        have HL0:Hid (codeL p c' h' s' (two K) own other v o true=0):=by unfold Hid;rw[HL.out,hg];rfl
        have HRB:Hid (codeM p c' h' s' (two K) own other v o true=if ((own.sum == 0)||(other.sum == 0))=true then 5 else 0):=by
         unfold Hid codeM;rw[if_pos HL0.out];simp
        have SUA:=h_ fun (W:World) (hx:SL W A n own)=>cP A n ca own W hx HP1.out.2.1 (by have:=HP1.out.2.2;omega) (by have:=HN1.out;omega)
        have SUB:=h_ fun (W:World) (hx:SL W B k other)=>cP B k cb other W hx HP2.out.2.1 (by have:=HP2.out.2.2;omega) (by have:=HN2.out;omega)
        clear hv hr h1 h2 hp hcu hg HL HL0 CG0;generalize two K=m at *
        rcases b1:(own.sum == 0) with _|_
        all_goals
         rcases b2:(other.sum == 0) with _|_
         all_goals
          have HR:=HRB;rw[b1,b2]at HR
          simp only[Bool.or_true,Bool.or_false,Bool.or_self,Bool.true_or,Bool.false_or,if_true,if_false,Bool.false_eq_true]at HR
          clear HRB;generalize own.sum=x1 at *;generalize other.sum=x2 at *
          go_enter Tryz.func102,Tryz.ntmps102
          go_wp2_with (first
             | (go_at_call 145;(with_reducible refine (more_first (CV'.out _)).mono ?_);rintro e w' ⟨rfl,t,rfl⟩)
             | (go_at_call 186;(with_reducible refine (more_call (CR'.out _)).mono ?_);rintro e w' ⟨rfl,tr,rfl⟩)
             | (go_at_call_of 93 A;(refine (more_call (CVA.out _ (HX.out.more _))).mono ?_);rintro e w' ⟨rfl,ta,rfl⟩)
             | (go_at_call_of 93 B;(refine (more_call (CVB.out _ (HY.out.more _))).mono ?_);rintro e w' ⟨rfl,tb,rfl⟩)
             | (go_at_call 119;(with_reducible refine (more_call (CC'.out _)).mono ?_);rintro e w' ⟨rfl,tc,rfl⟩)
             | (go_at_call 187;(with_reducible refine (more_call (CG'.out _)).mono ?_);rintro e w' ⟨rfl,tg,rfl⟩)
             | (go_at_call_of 74 A;(refine (SUA.out _ (HX.out.more _)).mono ?_);rintro e w' ⟨rfl,rfl⟩)
             | (go_at_call_of 74 B;(refine (SUB.out _ (HY.out.more _)).mono ?_);rintro e w' ⟨rfl,rfl⟩))
          go_ret
          exact⟨by rw[HR.out];rfl,by first|exact blw HB.out (Nat.le_refl _)|exact HB.out⟩
 rotate_left 6
 case za|zb|zc|zd|ze|zf|zg=>
  go_enter Tryz.func102,Tryz.ntmps102
  go_wp2_with (first
     | (go_at_call 145;(with_reducible refine (more_first (CV'.out _)).mono ?_);rintro e w' ⟨rfl,t,rfl⟩)
     | (go_at_call 186;(with_reducible refine (more_call (CR'.out _)).mono ?_);rintro e w' ⟨rfl,tr,rfl⟩)
     | (go_at_call_of 93 A;(refine (more_call (CVA.out _ (HX.out.more _))).mono ?_);rintro e w' ⟨rfl,ta,rfl⟩)
     | (go_at_call_of 93 B;(refine (more_call (CVB.out _ (HY.out.more _))).mono ?_);rintro e w' ⟨rfl,tb,rfl⟩)
     | (go_at_call 119;(with_reducible refine (more_call (CC'.out _)).mono ?_);rintro e w' ⟨rfl,tc,rfl⟩)
     | (go_at_call 187;(with_reducible refine (more_call (CG'.out _)).mono ?_);rintro e w' ⟨rfl,tg,rfl⟩)
     | (go_at_call_of 74 A;(refine (SUA.out _ (HX.out.more _)).mono ?_);rintro e w' ⟨rfl,rfl⟩)
     | (go_at_call_of 74 B;(refine (SUB.out _ (HY.out.more _)).mono ?_);rintro e w' ⟨rfl,rfl⟩))
  go_ret
  exact⟨by rw[HR.out];rfl,by first|exact blw HB.out (Nat.le_refl _)|exact HB.out⟩
theorem iX (p c h s m:Int) (b j:Bool) (A B:Option Addr) (n k ca cb:Nat) (own other:List Int) (v o:Int) (w:World) (hA:SL w A n own) (hB:SL w B k other):
  Calls Tryz.prog 105 #[.agg #[.int .i64 p,.int .i64 c,.int .i64 h,.int .i64 s],.agg #[.int .i64 m,.bool b,.bool j],.slice A n ca,.slice B k cb,.agg #[.int .i64 v,.int .i64 o]] w fun e w'=>e = .returned (.int .i64 (codeL p c h s m own other v o true))/\Below w.heap.size w w':=by
 have HB:Hid (Below w.heap.size w (((w.alloc (.cells #[.int .i64 p,.int .i64 c,.int .i64 h,.int .i64 s] 25)).alloc (.cells #[.int .i64 m,.bool b,.bool j] 53)).alloc (.cells #[.int .i64 v,.int .i64 o] 55))):=(((Below.refl _ _).alloc (Nat.le_refl _) _).alloc (by simp) _).alloc (by simp;omega) _
 have HX:=h_ (hA.below HB.out);have HY:=h_ (hB.below HB.out);clear hA hB
 rcases hv:isVar p c h s with _|_
 focus
  have HR:Hid (codeL p c h s m own other v o true=1):=gQ fun h0=>by rw[hv]at h0;cases h0.1
  have CV':Hid (∀W:World,Calls Tryz.prog 80 #[.agg #[.int .i64 p,.int .i64 c,.int .i64 h,.int .i64 s]] W fun e w'=>e = .returned (.bool false)/\Below W.heap.size W w'):=fun W=>by
   have:=aw p c h s W;rw[hv]at this;exact this
  clear hv
  refine ?zb
 rotate_left
 focus
  rcases hr:rulB m with _|_
  focus
   have HR:Hid (codeL p c h s m own other v o true=1):=gQ fun h0=>by rw[hr]at h0;cases h0.2
   have CV':Hid (∀W:World,Calls Tryz.prog 80 #[.agg #[.int .i64 p,.int .i64 c,.int .i64 h,.int .i64 s]] W fun e w'=>e = .returned (.bool true)/\Below W.heap.size W w'):=fun W=>by
    have:=aw p c h s W;rw[hv]at this;exact this
   have CR':Hid (∀W:World,Calls Tryz.prog 188 #[.agg #[.int .i64 m,.bool b,.bool j]] W fun e w'=>e = .returned (.bool false)/\Below W.heap.size W w'):=fun W=>by
    have:=sIsCubeRules_any m b j W;rw[hr]at this;exact this
   clear hv hr
   refine ?za
  rotate_left
  focus
   have hp:=aj hv
   have CV':Hid (∀W:World,Calls Tryz.prog 80 #[.agg #[.int .i64 p,.int .i64 c,.int .i64 h,.int .i64 s]] W fun e w'=>e = .returned (.bool true)/\Below W.heap.size W w'):=fun W=>by
    have:=aw p c h s W;rw[hv]at this;exact this
   have CR':Hid (∀W:World,Calls Tryz.prog 188 #[.agg #[.int .i64 m,.bool b,.bool j]] W fun e w'=>e = .returned (.bool true)/\Below W.heap.size W w'):=fun W=>by
    have:=sIsCubeRules_any m b j W;rw[hr]at this;exact this
   have CVA:=h_ fun (W:World) (hx:SL W A n own)=>dt p c h s A n ca own W hx hv
   have CVB:=h_ fun (W:World) (hx:SL W B k other)=>dt p c h s B k cb other W hx hv
   rcases h1:posB h c own with _|_
   focus
    have HR:Hid (codeL p c h s m own other v o true=2):=dx hv hr fun h0=>by rw[h1]at h0;cases h0.1
    rw[h1]at CVA;clear hv hr h1 hp
    refine ?zf
   rotate_left
   focus
    rcases h2:posB h c other with _|_
    focus
     have HR:Hid (codeL p c h s m own other v o true=2):=dx hv hr fun h0=>by rw[h2]at h0;cases h0.2.1
     rw[h1]at CVA;rw[h2]at CVB;clear hv hr h1 h2 hp
     refine ?zg
    rotate_left
    focus
     rcases hcu:cubB m v o with _|_
     focus
      have HR:Hid (codeL p c h s m own other v o true=2):=dx hv hr fun h0=>by rw[hcu]at h0;cases h0.2.2.1
      have CC':Hid (∀W:World,Calls Tryz.prog 189 #[.agg #[.int .i64 m,.bool b,.bool j],.agg #[.int .i64 v,.int .i64 o]] W fun e w'=>e = .returned (.bool false)/\Below W.heap.size W w'):=fun W=>by
       have:=iN m b j v o W;rw[hcu]at this;exact this
      rw[h1]at CVA;rw[h2]at CVB;clear hv hr h1 h2 hp hcu
      refine ?zc
     rotate_left
     focus
      have CC':Hid (∀W:World,Calls Tryz.prog 189 #[.agg #[.int .i64 m,.bool b,.bool j],.agg #[.int .i64 v,.int .i64 o]] W fun e w'=>e = .returned (.bool true)/\Below W.heap.size W w'):=fun W=>by
       have:=iN m b j v o W;rw[hcu]at this;exact this
      obtain⟨K,hK,rfl⟩:=dh hr
      obtain⟨c',rfl⟩:∃c':Nat,c=c':=⟨c.toNat,by omega⟩
      obtain⟨h',rfl⟩:∃h':Nat,h=h':=⟨h.toNat,by omega⟩
      obtain⟨s',rfl⟩:∃s':Nat,s=s':=⟨s.toNat,by omega⟩
      have HL:Hid (codeL p c' h' s' (two K) own other v o true=if gamB h' c' K=true then 0 else 3):=by
       unfold Hid;rw[kL hv hr ⟨h1,h2,hcu,rfl⟩,d7 hK]
      have CG0:=h_ fun (W:World)=>il p c' h' s' K b j W hv hK
      have HP1:=h_ (bA h1);have HP2:=h_ (bA h2);rw[h1]at CVA;rw[h2]at CVB
      have HN1:Hid (n<=24):=by have:=HX.out.1;have:=HP1.out.1;unfold Hid;omega
      have HN2:Hid (k<=24):=by have:=HY.out.1;have:=HP2.out.1;unfold Hid;omega
      rcases hg:gamB h' c' K with _|_
      focus
       have HR:Hid (codeL p c' h' s' (two K) own other v o true=3):=by rw[HL.out,hg];rfl
       have CG':Hid (∀W:World,Calls Tryz.prog 190 #[.agg #[.int .i64 p,.int .i64 c',.int .i64 h',.int .i64 s'],.agg #[.int .i64 (two K),.bool b,.bool j]] W fun e w'=>e = .returned (.bool false)/\Below W.heap.size W w'):=fun W=>by
        have:=CG0.out W;rwa [hg]at this
       clear hv hr h1 h2 hp hcu hg HL CG0;generalize two K=m at *
       refine ?zd
      rotate_left
      focus
       have CG':Hid (∀W:World,Calls Tryz.prog 190 #[.agg #[.int .i64 p,.int .i64 c',.int .i64 h',.int .i64 s'],.agg #[.int .i64 (two K),.bool b,.bool j]] W fun e w'=>e = .returned (.bool true)/\Below W.heap.size W w'):=fun W=>by
        have:=CG0.out W;rwa [hg]at this
       have HL0:Hid (codeL p c' h' s' (two K) own other v o true=0):=by unfold Hid;rw[HL.out,hg];rfl
       have HR:=HL0;clear hv hr h1 h2 hp hcu hg HL CG0;generalize two K=m at *
       refine ?ze
 rotate_left 6
 case za|zb|zc|zd|ze|zf|zg=>
  go_enter Tryz.func105,Tryz.ntmps105
  go_wp2_with (first
     | (go_at_call 80;(with_reducible refine (more_first (CV'.out _)).mono ?_);rintro e w' ⟨rfl,t,rfl⟩)
     | (go_at_call 188;(with_reducible refine (more_call (CR'.out _)).mono ?_);rintro e w' ⟨rfl,tr,rfl⟩)
     | (go_at_call_of 37 A;(refine (more_call (CVA.out _ (HX.out.more _))).mono ?_);rintro e w' ⟨rfl,ta,rfl⟩)
     | (go_at_call_of 37 B;(refine (more_call (CVB.out _ (HY.out.more _))).mono ?_);rintro e w' ⟨rfl,tb,rfl⟩)
     | (go_at_call 189;(with_reducible refine (more_call (CC'.out _)).mono ?_);rintro e w' ⟨rfl,tc,rfl⟩)
     | (go_at_call 190;(with_reducible refine (more_call (CG'.out _)).mono ?_);rintro e w' ⟨rfl,tg,rfl⟩))
  go_ret
  exact⟨by rw[HR.out];rfl,by first|exact blw HB.out (Nat.le_refl _)|exact HB.out⟩
end Go.Proofs.YtkaiilmgemaljaaGreat

/- The statement FnExactBestMoneyResult, the law's walk. There are no conditions. -/
import Derived.Test.YtgjapehpkakkbaaGreatLM37
import Derived.Test.YtgjapehpkakkbaaGreatLM25
import Derived.Test.YtgjapehpkakkbaaGreatLJ3
import Derived.Test.YtgjapehpkakkbaaGreatLZl
set_option linter.unusedVariables false
set_option linter.unusedSimpArgs false
namespace Go.Proofs.YtgjapehpkakkbaaGreat
open Go.RowKit Mo Ps Ra Ex
def AlcX (lo:Nat) (T:TypeId) (cs:List Value):RP:=fun v W=>∃g,v = .pointer (some ⟨g,0,none⟩)∧lo≤g∧Cel W g cs∧∃cur,W.heap[g]? = some (.cells cur T (0,0))
theorem stb_alcX (lo:Nat) (T:TypeId) (cs:List Value):Stb (AlcX lo T cs):=fun _ _ _ ⟨g,h1,h2,h3,cur,h4⟩ hb=>⟨g,h1,h2,h3.below hb,cur,(hb.block g h3.lt).trans h4⟩
theorem alcX_new {lo:Nat} (W:World) (cs:Array Value) (T:TypeId) (h:lo≤W.heap.size):AlcX lo T cs.toList (.pointer (some ⟨W.heap.size,0,none⟩)) (W.alloc (.cells cs T)):=⟨_,rfl,h,Cel.new W cs T,cs,heap_alloc_new W _⟩
theorem own_ne {W:World} {base:Nat} {e T:TypeId} {v:Value} {xs:List Int} {g:Nat} (ho:OwnS W base e v xs) (h:∃cur,W.heap[g]? = some (.cells cur T (0,0))) (hT:e≠T):∀k,v.ownBlock=some k→k≠g:=by
 intro k hk he
 subst he;obtain⟨cur',h⟩:=h;obtain⟨_,h4⟩:=ho
 rcases h4 with⟨h4,_⟩|⟨g,cap,cur,h4,_,h5,_⟩
 ·rw[h4]at hk;cases hk
 ·rw[h4]at hk
  simp[Value.ownBlock]at hk
  subst hk;rw[h]at h5;injection h5 with h5;injection h5 with _ h6
  exact hT h6.symm
def dsBestMoneyResult5:Nat→Nat
 | 0=>34
 | 1=>35
 | 2=>36
 | 3=>37
 | 4=>38
 | 5=>39
 | 6=>40
 | 7=>41
 | 8=>42
 | 9=>43
 | 10=>44
 | 11=>45
 | 12=>46
 | 13=>33
 | 14=>47
 | 15=>48
 | 16=>49
 | 17=>14
 | _=>0
def dsBestMoneyResult8:Nat→Nat
 | 0=>55
 | 1=>56
 | 2=>57
 | 3=>58
 | 4=>59
 | 5=>60
 | 6=>61
 | 7=>62
 | 8=>63
 | 9=>64
 | 10=>65
 | 11=>54
 | 12=>66
 | 13=>67
 | 14=>68
 | 15=>19
 | _=>0
def dsBestMoneyResult28:Nat→Nat
 | 0=>131
 | 1=>132
 | 2=>133
 | 3=>134
 | 4=>135
 | 5=>136
 | 6=>137
 | 7=>138
 | 8=>139
 | 9=>140
 | 10=>141
 | 11=>142
 | 12=>143
 | 13=>130
 | 14=>144
 | 15=>145
 | 16=>146
 | 17=>25
 | _=>0
set_option maxRecDepth 100000 in
set_option maxHeartbeats 8000000 in
theorem bestMoneyResult_law (p c h s km:Int) (kb kj:Bool) (cv co ra rb:Int) (A B:Option Addr) (n m ca cb:Nat) (own other:List Int) (w:World) (hown:SL w A n own) (hother:SL w B m other):
  Calls Tryz.prog 9 #[.agg #[.int .i64 p,.int .i64 c,.int .i64 h,.int .i64 s],.agg #[.int .i64 km,.bool kb,.bool kj],.slice A n ca,.slice B m cb,.agg #[.int .i64 cv,.int .i64 co],.agg #[.int .i64 ra,.int .i64 rb]] w fun e w'=>e = .returned (.bool true)∧Below w.heap.size w w':=by
 have hV0:Bel w ((((w.alloc (.cells #[.int .i64 p,.int .i64 c,.int .i64 h,.int .i64 s] 52)).alloc (.cells #[.int .i64 km,.bool kb,.bool kj] 54)).alloc (.cells #[.int .i64 cv,.int .i64 co] 56)).alloc (.cells #[.int .i64 ra,.int .i64 rb] 68)):=(Bel.trans (Bel.trans (Bel.trans (Bel.alloc _ _) (Bel.alloc _ _)) (Bel.alloc _ _)) (Bel.alloc _ _))
 have C0:Cel ((((w.alloc (.cells #[.int .i64 p,.int .i64 c,.int .i64 h,.int .i64 s] 52)).alloc (.cells #[.int .i64 km,.bool kb,.bool kj] 54)).alloc (.cells #[.int .i64 cv,.int .i64 co] 56)).alloc (.cells #[.int .i64 ra,.int .i64 rb] 68)) (w.heap.size) [.int .i64 p,.int .i64 c,.int .i64 h,.int .i64 s]:=(((Cel.new' _ _ _ (by simp)).alloc _).alloc _).alloc _
 have C1:Cel ((((w.alloc (.cells #[.int .i64 p,.int .i64 c,.int .i64 h,.int .i64 s] 52)).alloc (.cells #[.int .i64 km,.bool kb,.bool kj] 54)).alloc (.cells #[.int .i64 cv,.int .i64 co] 56)).alloc (.cells #[.int .i64 ra,.int .i64 rb] 68)) (w.heap.size+1) [.int .i64 km,.bool kb,.bool kj]:=((Cel.new' _ _ _ (by simp)).alloc _).alloc _
 have C2:Cel ((((w.alloc (.cells #[.int .i64 p,.int .i64 c,.int .i64 h,.int .i64 s] 52)).alloc (.cells #[.int .i64 km,.bool kb,.bool kj] 54)).alloc (.cells #[.int .i64 cv,.int .i64 co] 56)).alloc (.cells #[.int .i64 ra,.int .i64 rb] 68)) (w.heap.size+2) [.int .i64 cv,.int .i64 co]:=(Cel.new' _ _ _ (by simp)).alloc _
 have C3:Cel ((((w.alloc (.cells #[.int .i64 p,.int .i64 c,.int .i64 h,.int .i64 s] 52)).alloc (.cells #[.int .i64 km,.bool kb,.bool kj] 54)).alloc (.cells #[.int .i64 cv,.int .i64 co] 56)).alloc (.cells #[.int .i64 ra,.int .i64 rb] 68)) (w.heap.size+3) [.int .i64 ra,.int .i64 rb]:=Cel.new' _ _ _ (by simp)
 have Sown:=hown.below hV0;have Lown:=Lib.hid hown.1;have Aown:=Lib.hid hown;clear hown;have Sother:=hother.below hV0;have Lother:=Lib.hid hother.1;have Aother:=Lib.hid hother;clear hother;have HB:=Lib.hid hV0;clear hV0;replace C0:=Lib.hid C0;replace C1:=Lib.hid C1;replace C2:=Lib.hid C2;replace C3:=Lib.hid C3;replace Sown:=Lib.hid Sown;replace Sother:=Lib.hid Sother
 by_cases hn:(1048576:Int)<(n:Int)
 ·go_enter Tryz.func9,Tryz.ntmps9
  go_wp2
  go_ret
  exact⟨rfl,HB.out⟩
 by_cases hm:(1048576:Int)<(m:Int)
 ·go_enter Tryz.func9,Tryz.ntmps9
  go_wp2
  go_ret
  exact⟨rfl,HB.out⟩
 have hn':n≤2000000:=by omega
 have oown:own.length≤2000000:=by rw[Lown.out];exact hn'
 have hm':m≤2000000:=by omega
 have oother:other.length≤2000000:=by rw[Lother.out];exact hm'
 obtain⟨r,hr⟩:∃r,r=bmR p c h s km kb own other cv co ra rb:=⟨_,rfl⟩;have hlen:=bmR_len p c h s km kb own other cv co ra rb;rw[← hr]at hlen;obtain⟨xs,r1,r2,r3⟩:=r;replace hlen:xs.length≤1000000:=hlen
 have CS:Hid (∀(W:World) (X1:Option Addr) (k1:Nat) (X2:Option Addr) (k2:Nat),SL W X1 own.length own→SL W X2 other.length other→own.length≤k1→other.length≤k2→Calls Tryz.prog 44 #[.agg #[.int .i64 p,.int .i64 c,.int .i64 h,.int .i64 s],.agg #[.int .i64 km,.bool kb,.bool kj],.slice X1 own.length k1,.slice X2 other.length k2,.agg #[.int .i64 cv,.int .i64 co],.agg #[.int .i64 ra,.int .i64 rb]] W fun e w'=>∃v b,e = .returned (.tuple #[v,.agg #[.int .i64 r1,.int .i64 r2],.int .i64 r3])∧W.heap.size≤b∧OwnS w' b 2 (v) xs∧Below W.heap.size W w'):=fun W X1 k1 X2 k2 s1 s2 l1 l2=>by
  have:=sBestMoneyResult_any p c h s km kb kj X1 X2 _ _ k1 k2 own other cv co ra rb W s1 s2 l1 l2;rw[← hr]at this;exact this
 have CI:Hid (∀(W:World) (X1:Option Addr) (k1:Nat) (X2:Option Addr) (k2:Nat),SL W X1 own.length own→SL W X2 other.length other→own.length≤k1→other.length≤k2→Calls Tryz.prog 46 #[.agg #[.int .i64 p,.int .i64 c,.int .i64 h,.int .i64 s],.agg #[.int .i64 km,.bool kb,.bool kj],.slice X1 own.length k1,.slice X2 other.length k2,.agg #[.int .i64 cv,.int .i64 co],.agg #[.int .i64 ra,.int .i64 rb]] W fun e w'=>∃v b,e = .returned (.tuple #[v,.agg #[.int .i64 r1,.int .i64 r2],.int .i64 r3])∧W.heap.size≤b∧OwnS w' b 2 (v) xs∧Below W.heap.size W w'):=fun W X1 k1 X2 k2 s1 s2 l1 l2=>by
  have:=BestMoneyResult_any p c h s km kb kj X1 X2 _ _ k1 k2 own other cv co ra rb W s1 s2 l1 l2;rw[← hr]at this;exact this
 clear hr
 go_enter Tryz.func9,Tryz.ntmps9
 go_wp2_with (fail)
 generalize ((((w.alloc (.cells #[.int .i64 p,.int .i64 c,.int .i64 h,.int .i64 s] 52)).alloc (.cells #[.int .i64 km,.bool kb,.bool kj] 54)).alloc (.cells #[.int .i64 cv,.int .i64 co] 56)).alloc (.cells #[.int .i64 ra,.int .i64 rb] 68))=V at *;have zV0:=C0.out.lt;have zV1:=C1.out.lt;have zV2:=C2.out.lt;have zV3:=C3.out.lt
 refine wp_region_early 18 (fun i=>i == 15||i == 16) dsBestMoneyResult5 Bel (fun _=>True) (GL [Eqv (.agg #[.int .i64 p,.int .i64 c,.int .i64 h,.int .i64 s]),Eqv (.agg #[.int .i64 p,.int .i64 c,.int .i64 h,.int .i64 s]),Eqv (.agg #[.int .i64 km,.bool kb,.bool kj]),Eqv (.agg #[.int .i64 km,.bool kb,.bool kj]),Eqv (.slice A n ca),Cpy own,Eqv (.slice B m cb),Cpy other,Eqv (.agg #[.int .i64 cv,.int .i64 co]),Eqv (.agg #[.int .i64 cv,.int .i64 co]),Eqv (.agg #[.int .i64 ra,.int .i64 rb]),Eqv (.agg #[.int .i64 ra,.int .i64 rb]),RowT (fun W b v=>OwnS W b 2 (v) xs) V.heap.size [.agg #[.int .i64 r1,.int .i64 r2],.int .i64 r3],RowT (fun W b v=>OwnS W b 2 (v) xs) V.heap.size [.agg #[.int .i64 r1,.int .i64 r2],.int .i64 r3],RowE (fun W b v=>OwnS W b 2 (v) xs) V.heap.size,Eqv (.agg #[.int .i64 r1,.int .i64 r2]),Eqv (.int .i64 r3),AlcX V.heap.size (35) [.int .i64 0,.int .i64 0]]) (by kernel_rfl) (by kernel_rfl) (fun _ _ _ _ _ h=>h) (fun _ _ _ h1 h2=>Bel.trans h1 h2) Bel.rfl' (GL.stab (by repeat (first|exact AllStb.nil|refine AllStb.cons (by first|exact stb_eq _|exact stb_cpy _|exact stb_rowT stO_I|exact stb_rowE stO_I|exact stb_alcX _ _ _) ?_))) (Bel.drew _) trivial ?_ ?_ ?_
 ·intro i o hi hX ho a' W hW hIW hfar hdep
  have e2:a'.tmps.getD 2 undef = .slice A n ca:=(hfar 2 (by decide)).trans rfl
  have e3:a'.tmps.getD 3 undef = .slice B m cb:=(hfar 3 (by decide)).trans rfl
  have e6:a'.tmps.getD 6 undef = .pointer (some ⟨w.heap.size,0,none⟩):=(hfar 6 (by decide)).trans rfl
  have e7:a'.tmps.getD 7 undef = .pointer (some ⟨w.heap.size+1,0,none⟩):=(hfar 7 (by decide)).trans rfl
  have e10:a'.tmps.getD 10 undef = .pointer (some ⟨w.heap.size+2,0,none⟩):=(hfar 10 (by decide)).trans rfl
  have e11:a'.tmps.getD 11 undef = .pointer (some ⟨w.heap.size+3,0,none⟩):=(hfar 11 (by decide)).trans rfl
  have dep:∀j,j<18→Region.waitsFor .any _ i j=true→GL [Eqv (.agg #[.int .i64 p,.int .i64 c,.int .i64 h,.int .i64 s]),Eqv (.agg #[.int .i64 p,.int .i64 c,.int .i64 h,.int .i64 s]),Eqv (.agg #[.int .i64 km,.bool kb,.bool kj]),Eqv (.agg #[.int .i64 km,.bool kb,.bool kj]),Eqv (.slice A n ca),Cpy own,Eqv (.slice B m cb),Cpy other,Eqv (.agg #[.int .i64 cv,.int .i64 co]),Eqv (.agg #[.int .i64 cv,.int .i64 co]),Eqv (.agg #[.int .i64 ra,.int .i64 rb]),Eqv (.agg #[.int .i64 ra,.int .i64 rb]),RowT (fun W b v=>OwnS W b 2 (v) xs) V.heap.size [.agg #[.int .i64 r1,.int .i64 r2],.int .i64 r3],RowT (fun W b v=>OwnS W b 2 (v) xs) V.heap.size [.agg #[.int .i64 r1,.int .i64 r2],.int .i64 r3],RowE (fun W b v=>OwnS W b 2 (v) xs) V.heap.size,Eqv (.agg #[.int .i64 r1,.int .i64 r2]),Eqv (.int .i64 r3),AlcX V.heap.size (35) [.int .i64 0,.int .i64 0]] j (a'.tmps.getD (dsBestMoneyResult5 j) undef) W:=hdep
  have hi8:i=15∨i=16:=by simpa using hX
  clear hfar hdep hX hi
  rcases hi8 with rfl|rfl
  all_goals (simp at ho;subst ho)
  ·obtain⟨u,bs,d1,h1,h2⟩:RowT (fun W b v=>OwnS W b 2 (v) xs) V.heap.size [.agg #[.int .i64 r1,.int .i64 r2],.int .i64 r3] (a'.tmps.getD 33 undef) W:=dep 13 (by omega) (by kernel_rfl)
   replace d1:a'.tmps.getD 33 undef = .tuple #[u,.agg #[.int .i64 r1,.int .i64 r2],.int .i64 r3]:=d1
   exact⟨.agg #[.int .i64 r1,.int .i64 r2],fun W'=>by simp only[execOp,Act.eval,d1];go_simp,rfl⟩
  ·obtain⟨u,bs,d1,h1,h2⟩:RowT (fun W b v=>OwnS W b 2 (v) xs) V.heap.size [.agg #[.int .i64 r1,.int .i64 r2],.int .i64 r3] (a'.tmps.getD 33 undef) W:=dep 13 (by omega) (by kernel_rfl)
   replace d1:a'.tmps.getD 33 undef = .tuple #[u,.agg #[.int .i64 r1,.int .i64 r2],.int .i64 r3]:=d1
   exact⟨.int .i64 r3,fun W'=>by simp only[execOp,Act.eval,d1];go_simp,rfl⟩
 ·intro i o hi hX ho a' W hW hIW hfar hdep
  have e2:a'.tmps.getD 2 undef = .slice A n ca:=(hfar 2 (by decide)).trans rfl
  have e3:a'.tmps.getD 3 undef = .slice B m cb:=(hfar 3 (by decide)).trans rfl
  have e6:a'.tmps.getD 6 undef = .pointer (some ⟨w.heap.size,0,none⟩):=(hfar 6 (by decide)).trans rfl
  have e7:a'.tmps.getD 7 undef = .pointer (some ⟨w.heap.size+1,0,none⟩):=(hfar 7 (by decide)).trans rfl
  have e10:a'.tmps.getD 10 undef = .pointer (some ⟨w.heap.size+2,0,none⟩):=(hfar 10 (by decide)).trans rfl
  have e11:a'.tmps.getD 11 undef = .pointer (some ⟨w.heap.size+3,0,none⟩):=(hfar 11 (by decide)).trans rfl
  have dep:∀j,j<18→Region.waitsFor .any _ i j=true→GL [Eqv (.agg #[.int .i64 p,.int .i64 c,.int .i64 h,.int .i64 s]),Eqv (.agg #[.int .i64 p,.int .i64 c,.int .i64 h,.int .i64 s]),Eqv (.agg #[.int .i64 km,.bool kb,.bool kj]),Eqv (.agg #[.int .i64 km,.bool kb,.bool kj]),Eqv (.slice A n ca),Cpy own,Eqv (.slice B m cb),Cpy other,Eqv (.agg #[.int .i64 cv,.int .i64 co]),Eqv (.agg #[.int .i64 cv,.int .i64 co]),Eqv (.agg #[.int .i64 ra,.int .i64 rb]),Eqv (.agg #[.int .i64 ra,.int .i64 rb]),RowT (fun W b v=>OwnS W b 2 (v) xs) V.heap.size [.agg #[.int .i64 r1,.int .i64 r2],.int .i64 r3],RowT (fun W b v=>OwnS W b 2 (v) xs) V.heap.size [.agg #[.int .i64 r1,.int .i64 r2],.int .i64 r3],RowE (fun W b v=>OwnS W b 2 (v) xs) V.heap.size,Eqv (.agg #[.int .i64 r1,.int .i64 r2]),Eqv (.int .i64 r3),AlcX V.heap.size (35) [.int .i64 0,.int .i64 0]] j (a'.tmps.getD (dsBestMoneyResult5 j) undef) W:=hdep
  have hi8:i=0∨i=1∨i=2∨i=3∨i=4∨i=5∨i=6∨i=7∨i=8∨i=9∨i=10∨i=11∨i=12∨i=13∨i=14∨i=17:=by simp at hX;omega
  clear hfar hdep hX hi
  rcases hi8 with rfl|rfl|rfl|rfl|rfl|rfl|rfl|rfl|rfl|rfl|rfl|rfl|rfl|rfl|rfl|rfl
  all_goals (simp at ho;subst ho)
  ·have zz:=C0.out.below hW
   have z0:=zz.cell 0 _ rfl;have z1:=zz.cell 1 _ rfl;have z2:=zz.cell 2 _ rfl;have z3:=zz.cell 3 _ rfl
   exact .inl ⟨.agg #[.int .i64 p,.int .i64 c,.int .i64 h,.int .i64 s],W,by simp only[execOp,Act.eval,e6];go_simp,Bel.rfl' _,trivial,rfl⟩
  ·have d1:a'.tmps.getD 34 undef = .agg #[.int .i64 p,.int .i64 c,.int .i64 h,.int .i64 s]:=dep 0 (by omega) (by kernel_rfl)
   refine .inr ⟨31,#[.agg #[.int .i64 p,.int .i64 c,.int .i64 h,.int .i64 s]],by simp only[execOp,Act.eval,d1];go_simp,?_⟩
   refine (toVariant_any _ _ _ _ _).mono ?_
   rintro e W' ⟨rfl,hb'⟩
   exact⟨_,rfl,hb',trivial,rfl⟩
  ·have zz:=C1.out.below hW
   have z0:=zz.cell 0 _ rfl;have z1:=zz.cell 1 _ rfl;have z2:=zz.cell 2 _ rfl
   exact .inl ⟨.agg #[.int .i64 km,.bool kb,.bool kj],W,by simp only[execOp,Act.eval,e7];go_simp,Bel.rfl' _,trivial,rfl⟩
  ·have d1:a'.tmps.getD 36 undef = .agg #[.int .i64 km,.bool kb,.bool kj]:=dep 2 (by omega) (by kernel_rfl)
   refine .inr ⟨32,#[.agg #[.int .i64 km,.bool kb,.bool kj]],by simp only[execOp,Act.eval,d1];go_simp,?_⟩
   refine (toCubeRules_any _ _ _ _).mono ?_
   rintro e W' ⟨rfl,hb'⟩
   exact⟨_,rfl,hb',trivial,rfl⟩
  ·exact .inl ⟨.slice A n ca,W,by simp only[execOp,Act.eval,e2];go_simp,Bel.rfl' _,trivial,rfl⟩
  ·have d1:a'.tmps.getD 38 undef = .slice A n ca:=dep 4 (by omega) (by kernel_rfl)
   refine .inr ⟨33,#[.slice A n ca],by simp only[execOp,Act.eval,d1];go_simp,?_⟩
   refine (toInt64S_any _ _ _ _ _ (Sown.out.below hW) hn').mono ?_
   rintro e W' ⟨X1,k1,rfl,ho1,hb'⟩
   exact⟨_,rfl,hb',trivial,X1,k1,rfl,(ho1.sl rfl).1,(ho1.sl rfl).2⟩
  ·exact .inl ⟨.slice B m cb,W,by simp only[execOp,Act.eval,e3];go_simp,Bel.rfl' _,trivial,rfl⟩
  ·have d1:a'.tmps.getD 40 undef = .slice B m cb:=dep 6 (by omega) (by kernel_rfl)
   refine .inr ⟨33,#[.slice B m cb],by simp only[execOp,Act.eval,d1];go_simp,?_⟩
   refine (toInt64S_any _ _ _ _ _ (Sother.out.below hW) hm').mono ?_
   rintro e W' ⟨X1,k1,rfl,ho1,hb'⟩
   exact⟨_,rfl,hb',trivial,X1,k1,rfl,(ho1.sl rfl).1,(ho1.sl rfl).2⟩
  ·have zz:=C2.out.below hW
   have z0:=zz.cell 0 _ rfl;have z1:=zz.cell 1 _ rfl
   exact .inl ⟨.agg #[.int .i64 cv,.int .i64 co],W,by simp only[execOp,Act.eval,e10];go_simp,Bel.rfl' _,trivial,rfl⟩
  ·have d1:a'.tmps.getD 42 undef = .agg #[.int .i64 cv,.int .i64 co]:=dep 8 (by omega) (by kernel_rfl)
   refine .inr ⟨34,#[.agg #[.int .i64 cv,.int .i64 co]],by simp only[execOp,Act.eval,d1];go_simp,?_⟩
   refine (toCube_any _ _ _).mono ?_
   rintro e W' ⟨rfl,hb'⟩
   exact⟨_,rfl,hb',trivial,rfl⟩
  ·have zz:=C3.out.below hW
   have z0:=zz.cell 0 _ rfl;have z1:=zz.cell 1 _ rfl
   exact .inl ⟨.agg #[.int .i64 ra,.int .i64 rb],W,by simp only[execOp,Act.eval,e11];go_simp,Bel.rfl' _,trivial,rfl⟩
  ·have d1:a'.tmps.getD 44 undef = .agg #[.int .i64 ra,.int .i64 rb]:=dep 10 (by omega) (by kernel_rfl)
   refine .inr ⟨45,#[.agg #[.int .i64 ra,.int .i64 rb]],by simp only[execOp,Act.eval,d1];go_simp,?_⟩
   refine (toRoll_any _ _ _).mono ?_
   rintro e W' ⟨rfl,hb'⟩
   exact⟨_,rfl,hb',trivial,rfl⟩
  ·have d35:a'.tmps.getD 35 undef = .agg #[.int .i64 p,.int .i64 c,.int .i64 h,.int .i64 s]:=dep 1 (by omega) (by kernel_rfl)
   have d37:a'.tmps.getD 37 undef = .agg #[.int .i64 km,.bool kb,.bool kj]:=dep 3 (by omega) (by kernel_rfl)
   obtain⟨X1,k1,d39,s1,l1⟩:Cpy own (a'.tmps.getD 39 undef) W:=dep 5 (by omega) (by kernel_rfl)
   obtain⟨X2,k2,d41,s2,l2⟩:Cpy other (a'.tmps.getD 41 undef) W:=dep 7 (by omega) (by kernel_rfl)
   have d43:a'.tmps.getD 43 undef = .agg #[.int .i64 cv,.int .i64 co]:=dep 9 (by omega) (by kernel_rfl)
   have d45:a'.tmps.getD 45 undef = .agg #[.int .i64 ra,.int .i64 rb]:=dep 11 (by omega) (by kernel_rfl)
   refine .inr ⟨44,#[.agg #[.int .i64 p,.int .i64 c,.int .i64 h,.int .i64 s],.agg #[.int .i64 km,.bool kb,.bool kj],.slice X1 own.length k1,.slice X2 other.length k2,.agg #[.int .i64 cv,.int .i64 co],.agg #[.int .i64 ra,.int .i64 rb]],by simp only[execOp,Act.eval,d35,d37,d39,d41,d43,d45];go_simp,?_⟩
   refine (CS.out W X1 k1 X2 k2 s1 s2 l1 l2).mono ?_
   rintro e W' ⟨u,bs,rfl,hbs,ho,hb'⟩
   exact⟨_,rfl,hb',trivial,u,bs,rfl,Nat.le_trans (Below.size hW) hbs,ho⟩
  ·obtain⟨u,bs,d1,h1,h2⟩:RowT (fun W b v=>OwnS W b 2 (v) xs) V.heap.size [.agg #[.int .i64 r1,.int .i64 r2],.int .i64 r3] (a'.tmps.getD 46 undef) W:=dep 12 (by omega) (by kernel_rfl)
   replace d1:a'.tmps.getD 46 undef = .tuple #[u,.agg #[.int .i64 r1,.int .i64 r2],.int .i64 r3]:=d1
   exact .inl ⟨.tuple #[u,.agg #[.int .i64 r1,.int .i64 r2],.int .i64 r3],W,by simp only[execOp,Act.eval,d1];go_simp,Bel.rfl' _,trivial,u,bs,rfl,h1,h2⟩
  ·obtain⟨u,bs,d1,h1,h2⟩:RowT (fun W b v=>OwnS W b 2 (v) xs) V.heap.size [.agg #[.int .i64 r1,.int .i64 r2],.int .i64 r3] (a'.tmps.getD 33 undef) W:=dep 13 (by omega) (by kernel_rfl)
   replace d1:a'.tmps.getD 33 undef = .tuple #[u,.agg #[.int .i64 r1,.int .i64 r2],.int .i64 r3]:=d1
   exact .inl ⟨u,W,by simp only[execOp,Act.eval,d1];go_simp,Bel.rfl' _,trivial,bs,h1,h2⟩
  ·exact .inl ⟨.pointer (some ⟨W.heap.size,0,none⟩),W.alloc (.cells #[.int .i64 0,.int .i64 0] 35),by kernel_rfl,Bel.alloc _ _,trivial,alcX_new _ _ _ (Below.size hW)⟩
 intro v V1 hW hIW hg
 have g0:v 0 = .agg #[.int .i64 p,.int .i64 c,.int .i64 h,.int .i64 s]:=hg 0 (by omega)
 have g1:v 1 = .agg #[.int .i64 p,.int .i64 c,.int .i64 h,.int .i64 s]:=hg 1 (by omega)
 have g2:v 2 = .agg #[.int .i64 km,.bool kb,.bool kj]:=hg 2 (by omega)
 have g3:v 3 = .agg #[.int .i64 km,.bool kb,.bool kj]:=hg 3 (by omega)
 have g4:v 4 = .slice A n ca:=hg 4 (by omega)
 obtain⟨_,_,g5,_,_⟩:Cpy own (v 5) V1:=hg 5 (by omega)
 have g6:v 6 = .slice B m cb:=hg 6 (by omega)
 obtain⟨_,_,g7,_,_⟩:Cpy other (v 7) V1:=hg 7 (by omega)
 have g8:v 8 = .agg #[.int .i64 cv,.int .i64 co]:=hg 8 (by omega)
 have g9:v 9 = .agg #[.int .i64 cv,.int .i64 co]:=hg 9 (by omega)
 have g10:v 10 = .agg #[.int .i64 ra,.int .i64 rb]:=hg 10 (by omega)
 have g11:v 11 = .agg #[.int .i64 ra,.int .i64 rb]:=hg 11 (by omega)
 obtain⟨_,_,g12,_,_⟩:RowT (fun W b v=>OwnS W b 2 (v) xs) V.heap.size [.agg #[.int .i64 r1,.int .i64 r2],.int .i64 r3] (v 12) V1:=hg 12 (by omega)
 obtain⟨_,_,g13,_,_⟩:RowT (fun W b v=>OwnS W b 2 (v) xs) V.heap.size [.agg #[.int .i64 r1,.int .i64 r2],.int .i64 r3] (v 13) V1:=hg 13 (by omega)
 obtain⟨bs,hbs,ho⟩:RowE (fun W b v=>OwnS W b 2 (v) xs) V.heap.size (v 14) V1:=hg 14 (by omega)
 obtain⟨Gw,cw,g14,-,-⟩:=ho.read;rw[g14]at ho
 have g15:v 15 = .agg #[.int .i64 r1,.int .i64 r2]:=hg 15 (by omega)
 have g16:v 16 = .int .i64 r3:=hg 16 (by omega)
 obtain⟨bw17,g17,glbw17,Abw17,htybw17⟩:AlcX V.heap.size (35) [.int .i64 0,.int .i64 0] (v 17) V1:=hg 17 (by omega)
 simp only[List.drop_succ_cons,List.drop_zero,putV,dsBestMoneyResult5,g0,g1,g2,g3,g4,g5,g6,g7,g8,g9,g10,g11,g12,g13,g14,g15,g16,g17,Act.put]
 clear g0 g1 g2 g3 g4 g5 g6 g7 g8 g9 g10 g11 g12 g13 g14 g15 g16 g17 hg hIW;have hb:=hW.out;have hbw:V.heap.size≤bs:=hbs;clear hW hbs
 have Nbw17:=Lib.hid (own_ne ho htybw17 (by decide))
 clear htybw17;have ybw17_0:=Abw17.cell 0 _ rfl;have xbw17_0:=Abw17.froz 0 _ rfl;have ybw17_1:=Abw17.cell 1 _ rfl;have xbw17_1:=Abw17.froz 1 _ rfl;have ylbw17:=Abw17.lt;replace Abw17:=Lib.hid Abw17;have ho:=Lib.hid ho;have hb:=Lib.hid hb;have hbw:=Lib.hid hbw
 go_wp2_with (fail)
 obtain⟨V2,hV⟩:∃V,V=((V1.setCell ⟨bw17,0,none⟩ (.int .i64 r1)).setCell ⟨bw17,1,none⟩ (.int .i64 r2)):=⟨_,rfl⟩;rw[← hV]
 have hb3:Below V.heap.size V V2:=by rw[hV];exact (Below.setCell (p:=⟨bw17,1,none⟩) (Below.setCell (p:=⟨bw17,0,none⟩) hb.out glbw17 _) glbw17 _)
 have Gbw17:Hid (Cel V2 bw17 [.int .i64 r1,.int .i64 r2]):=by rw[hV];exact ((Abw17.out.st (by simp)).st (by simp))
 have ho3:OwnS V2 bs 2 (.slice Gw xs.length cw) xs:=by rw[hV];exact ((Frm.set _ bw17 1 _).own ((Frm.set _ bw17 0 _).own ho.out (fun j hj h=>Nbw17.out j hj h)) (fun j hj h=>Nbw17.out j hj h))
 have hbw:=hbw.out;clear hV hb ho;clear Abw17 ylbw17 ybw17_0 xbw17_0 ybw17_1 xbw17_1;have hb:=hb3;have ho:=ho3;clear hb3 ho3
 have uV2:=Below.size (show Below V.heap.size V V2 from hb)
 replace C0:=Lib.hid (C0.out.below hb);replace C1:=Lib.hid (C1.out.below hb);replace C2:=Lib.hid (C2.out.below hb);replace C3:=Lib.hid (C3.out.below hb);replace Sown:=Lib.hid (Sown.out.below hb);replace Sother:=Lib.hid (Sother.out.below hb);replace HB:=Lib.hid (Bel.trans HB.out hb);clear hb
 have UHw:Hid (∀k,(.slice Gw xs.length cw:Value).ownBlock=some k→k<V2.heap.size):=fun k hk=>(ho.lt k hk).2
 have Hw:=Lib.hid ho;clear ho;have bw:=hbw;clear hbw;have z0Gbw17:bw17<V2.heap.size:=Gbw17.out.lt;have cC0_0:=C0.out.cell 0 _ rfl;have cC0_1:=C0.out.cell 1 _ rfl;have cC0_2:=C0.out.cell 2 _ rfl;have cC0_3:=C0.out.cell 3 _ rfl;have cC1_0:=C1.out.cell 0 _ rfl;have cC1_1:=C1.out.cell 1 _ rfl;have cC1_2:=C1.out.cell 2 _ rfl;have cC2_0:=C2.out.cell 0 _ rfl;have cC2_1:=C2.out.cell 1 _ rfl;have cC3_0:=C3.out.cell 0 _ rfl;have cC3_1:=C3.out.cell 1 _ rfl;have cGbw17_0:=Gbw17.out.cell 0 _ rfl;have cGbw17_1:=Gbw17.out.cell 1 _ rfl;have zC0:=C0.out.lt;have zC1:=C1.out.lt;have zC2:=C2.out.lt;have zC3:=C3.out.lt;have zGbw17:=Gbw17.out.lt
 refine (toInt64S_any _ _ _ _ _ Sown.out hn').mono ?_
 rintro e V3 ⟨Y1,y1,rfl,ho,hb⟩
 clear cC0_0 cC0_1 cC0_2 cC0_3 zC0 cC1_0 cC1_1 cC1_2 zC1 cC2_0 cC2_1 zC2 cC3_0 cC3_1 zC3 cGbw17_0 cGbw17_1 zGbw17;replace Hw:=Lib.hid (Hw.out.below hb)
 have uV3:=Below.size (show Below V2.heap.size V2 V3 from hb)
 replace C0:=Lib.hid (C0.out.below hb);replace C1:=Lib.hid (C1.out.below hb);replace C2:=Lib.hid (C2.out.below hb);replace C3:=Lib.hid (C3.out.below hb);replace Gbw17:=Lib.hid (Gbw17.out.below hb);replace Sown:=Lib.hid (Sown.out.below hb);replace Sother:=Lib.hid (Sother.out.below hb);replace HB:=Lib.hid (Bel.trans HB.out hb);clear hb;have H1k:=Lib.hid (ho.sl rfl).2
 have UH1:Hid (∀k,(.slice Y1 own.length y1:Value).ownBlock=some k→k<V3.heap.size):=fun k hk=>(ho.lt k hk).2
 have H1:=Lib.hid ho;clear ho;have cC0_0:=C0.out.cell 0 _ rfl;have cC0_1:=C0.out.cell 1 _ rfl;have cC0_2:=C0.out.cell 2 _ rfl;have cC0_3:=C0.out.cell 3 _ rfl;have cC1_0:=C1.out.cell 0 _ rfl;have cC1_1:=C1.out.cell 1 _ rfl;have cC1_2:=C1.out.cell 2 _ rfl;have cC2_0:=C2.out.cell 0 _ rfl;have cC2_1:=C2.out.cell 1 _ rfl;have cC3_0:=C3.out.cell 0 _ rfl;have cC3_1:=C3.out.cell 1 _ rfl;have cGbw17_0:=Gbw17.out.cell 0 _ rfl;have cGbw17_1:=Gbw17.out.cell 1 _ rfl;have zC0:=C0.out.lt;have zC1:=C1.out.lt;have zC2:=C2.out.lt;have zC3:=C3.out.lt;have zGbw17:=Gbw17.out.lt
 go_wp2_with (fail)
 refine (toInt64S_any _ _ _ _ _ Sother.out hm').mono ?_
 rintro e V4 ⟨Y2,y2,rfl,ho,hb⟩
 clear cC0_0 cC0_1 cC0_2 cC0_3 zC0 cC1_0 cC1_1 cC1_2 zC1 cC2_0 cC2_1 zC2 cC3_0 cC3_1 zC3 cGbw17_0 cGbw17_1 zGbw17;replace Hw:=Lib.hid (Hw.out.below hb);replace H1:=Lib.hid (H1.out.below hb)
 have uV4:=Below.size (show Below V3.heap.size V3 V4 from hb)
 replace C0:=Lib.hid (C0.out.below hb);replace C1:=Lib.hid (C1.out.below hb);replace C2:=Lib.hid (C2.out.below hb);replace C3:=Lib.hid (C3.out.below hb);replace Gbw17:=Lib.hid (Gbw17.out.below hb);replace Sown:=Lib.hid (Sown.out.below hb);replace Sother:=Lib.hid (Sother.out.below hb);replace HB:=Lib.hid (Bel.trans HB.out hb);clear hb;have H2k:=Lib.hid (ho.sl rfl).2
 have UH2:Hid (∀k,(.slice Y2 other.length y2:Value).ownBlock=some k→k<V4.heap.size):=fun k hk=>(ho.lt k hk).2
 have H2:=Lib.hid ho;clear ho;have cC0_0:=C0.out.cell 0 _ rfl;have cC0_1:=C0.out.cell 1 _ rfl;have cC0_2:=C0.out.cell 2 _ rfl;have cC0_3:=C0.out.cell 3 _ rfl;have cC1_0:=C1.out.cell 0 _ rfl;have cC1_1:=C1.out.cell 1 _ rfl;have cC1_2:=C1.out.cell 2 _ rfl;have cC2_0:=C2.out.cell 0 _ rfl;have cC2_1:=C2.out.cell 1 _ rfl;have cC3_0:=C3.out.cell 0 _ rfl;have cC3_1:=C3.out.cell 1 _ rfl;have cGbw17_0:=Gbw17.out.cell 0 _ rfl;have cGbw17_1:=Gbw17.out.cell 1 _ rfl;have zC0:=C0.out.lt;have zC1:=C1.out.lt;have zC2:=C2.out.lt;have zC3:=C3.out.lt;have zGbw17:=Gbw17.out.lt
 go_wp2_with (fail)
 clear cC0_0 cC0_1 cC0_2 cC0_3 zC0 cC1_0 cC1_1 cC1_2 zC1 cC2_0 cC2_1 zC2 cC3_0 cC3_1 zC3 cGbw17_0 cGbw17_1 zGbw17
 refine wp_region_early 16 (fun i=>i == 13||i == 14) dsBestMoneyResult8 Bel (fun _=>True) (GL [Eqv (.agg #[.int .i64 p,.int .i64 c,.int .i64 h,.int .i64 s]),Eqv (.agg #[.int .i64 p,.int .i64 c,.int .i64 h,.int .i64 s]),Eqv (.agg #[.int .i64 km,.bool kb,.bool kj]),Eqv (.agg #[.int .i64 km,.bool kb,.bool kj]),Eqv (.slice Y1 own.length y1),Eqv (.slice Y2 other.length y2),Eqv (.agg #[.int .i64 cv,.int .i64 co]),Eqv (.agg #[.int .i64 cv,.int .i64 co]),Eqv (.agg #[.int .i64 ra,.int .i64 rb]),Eqv (.agg #[.int .i64 ra,.int .i64 rb]),RowT (fun W b v=>OwnS W b 2 (v) xs) V4.heap.size [.agg #[.int .i64 r1,.int .i64 r2],.int .i64 r3],RowT (fun W b v=>OwnS W b 2 (v) xs) V4.heap.size [.agg #[.int .i64 r1,.int .i64 r2],.int .i64 r3],RowE (fun W b v=>OwnS W b 2 (v) xs) V4.heap.size,Eqv (.agg #[.int .i64 r1,.int .i64 r2]),Eqv (.int .i64 r3),AlcX V4.heap.size (35) [.int .i64 0,.int .i64 0]]) (by kernel_rfl) (by kernel_rfl) (fun _ _ _ _ _ h=>h) (fun _ _ _ h1 h2=>Bel.trans h1 h2) Bel.rfl' (GL.stab (by repeat (first|exact AllStb.nil|refine AllStb.cons (by first|exact stb_eq _|exact stb_cpy _|exact stb_rowT stO_I|exact stb_rowE stO_I|exact stb_alcX _ _ _) ?_))) (Bel.drew _) trivial ?_ ?_ ?_
 ·intro i o hi hX ho a' W hW hIW hfar hdep
  have e6:a'.tmps.getD 6 undef = .pointer (some ⟨w.heap.size,0,none⟩):=(hfar 6 (by decide)).trans rfl
  have e7:a'.tmps.getD 7 undef = .pointer (some ⟨w.heap.size+1,0,none⟩):=(hfar 7 (by decide)).trans rfl
  have e10:a'.tmps.getD 10 undef = .pointer (some ⟨w.heap.size+2,0,none⟩):=(hfar 10 (by decide)).trans rfl
  have e11:a'.tmps.getD 11 undef = .pointer (some ⟨w.heap.size+3,0,none⟩):=(hfar 11 (by decide)).trans rfl
  have e16:a'.tmps.getD 16 undef = .slice Y1 own.length y1:=(hfar 16 (by decide)).trans rfl
  have e17:a'.tmps.getD 17 undef = .slice Y2 other.length y2:=(hfar 17 (by decide)).trans rfl
  have dep:∀j,j<16→Region.waitsFor .any _ i j=true→GL [Eqv (.agg #[.int .i64 p,.int .i64 c,.int .i64 h,.int .i64 s]),Eqv (.agg #[.int .i64 p,.int .i64 c,.int .i64 h,.int .i64 s]),Eqv (.agg #[.int .i64 km,.bool kb,.bool kj]),Eqv (.agg #[.int .i64 km,.bool kb,.bool kj]),Eqv (.slice Y1 own.length y1),Eqv (.slice Y2 other.length y2),Eqv (.agg #[.int .i64 cv,.int .i64 co]),Eqv (.agg #[.int .i64 cv,.int .i64 co]),Eqv (.agg #[.int .i64 ra,.int .i64 rb]),Eqv (.agg #[.int .i64 ra,.int .i64 rb]),RowT (fun W b v=>OwnS W b 2 (v) xs) V4.heap.size [.agg #[.int .i64 r1,.int .i64 r2],.int .i64 r3],RowT (fun W b v=>OwnS W b 2 (v) xs) V4.heap.size [.agg #[.int .i64 r1,.int .i64 r2],.int .i64 r3],RowE (fun W b v=>OwnS W b 2 (v) xs) V4.heap.size,Eqv (.agg #[.int .i64 r1,.int .i64 r2]),Eqv (.int .i64 r3),AlcX V4.heap.size (35) [.int .i64 0,.int .i64 0]] j (a'.tmps.getD (dsBestMoneyResult8 j) undef) W:=hdep
  have hi8:i=13∨i=14:=by simpa using hX
  clear hfar hdep hX hi
  rcases hi8 with rfl|rfl
  all_goals (simp at ho;subst ho)
  ·obtain⟨u,bs,d1,h1,h2⟩:RowT (fun W b v=>OwnS W b 2 (v) xs) V4.heap.size [.agg #[.int .i64 r1,.int .i64 r2],.int .i64 r3] (a'.tmps.getD 54 undef) W:=dep 11 (by omega) (by kernel_rfl)
   replace d1:a'.tmps.getD 54 undef = .tuple #[u,.agg #[.int .i64 r1,.int .i64 r2],.int .i64 r3]:=d1
   exact⟨.agg #[.int .i64 r1,.int .i64 r2],fun W'=>by simp only[execOp,Act.eval,d1];go_simp,rfl⟩
  ·obtain⟨u,bs,d1,h1,h2⟩:RowT (fun W b v=>OwnS W b 2 (v) xs) V4.heap.size [.agg #[.int .i64 r1,.int .i64 r2],.int .i64 r3] (a'.tmps.getD 54 undef) W:=dep 11 (by omega) (by kernel_rfl)
   replace d1:a'.tmps.getD 54 undef = .tuple #[u,.agg #[.int .i64 r1,.int .i64 r2],.int .i64 r3]:=d1
   exact⟨.int .i64 r3,fun W'=>by simp only[execOp,Act.eval,d1];go_simp,rfl⟩
 ·intro i o hi hX ho a' W hW hIW hfar hdep
  have e6:a'.tmps.getD 6 undef = .pointer (some ⟨w.heap.size,0,none⟩):=(hfar 6 (by decide)).trans rfl
  have e7:a'.tmps.getD 7 undef = .pointer (some ⟨w.heap.size+1,0,none⟩):=(hfar 7 (by decide)).trans rfl
  have e10:a'.tmps.getD 10 undef = .pointer (some ⟨w.heap.size+2,0,none⟩):=(hfar 10 (by decide)).trans rfl
  have e11:a'.tmps.getD 11 undef = .pointer (some ⟨w.heap.size+3,0,none⟩):=(hfar 11 (by decide)).trans rfl
  have e16:a'.tmps.getD 16 undef = .slice Y1 own.length y1:=(hfar 16 (by decide)).trans rfl
  have e17:a'.tmps.getD 17 undef = .slice Y2 other.length y2:=(hfar 17 (by decide)).trans rfl
  have dep:∀j,j<16→Region.waitsFor .any _ i j=true→GL [Eqv (.agg #[.int .i64 p,.int .i64 c,.int .i64 h,.int .i64 s]),Eqv (.agg #[.int .i64 p,.int .i64 c,.int .i64 h,.int .i64 s]),Eqv (.agg #[.int .i64 km,.bool kb,.bool kj]),Eqv (.agg #[.int .i64 km,.bool kb,.bool kj]),Eqv (.slice Y1 own.length y1),Eqv (.slice Y2 other.length y2),Eqv (.agg #[.int .i64 cv,.int .i64 co]),Eqv (.agg #[.int .i64 cv,.int .i64 co]),Eqv (.agg #[.int .i64 ra,.int .i64 rb]),Eqv (.agg #[.int .i64 ra,.int .i64 rb]),RowT (fun W b v=>OwnS W b 2 (v) xs) V4.heap.size [.agg #[.int .i64 r1,.int .i64 r2],.int .i64 r3],RowT (fun W b v=>OwnS W b 2 (v) xs) V4.heap.size [.agg #[.int .i64 r1,.int .i64 r2],.int .i64 r3],RowE (fun W b v=>OwnS W b 2 (v) xs) V4.heap.size,Eqv (.agg #[.int .i64 r1,.int .i64 r2]),Eqv (.int .i64 r3),AlcX V4.heap.size (35) [.int .i64 0,.int .i64 0]] j (a'.tmps.getD (dsBestMoneyResult8 j) undef) W:=hdep
  have hi8:i=0∨i=1∨i=2∨i=3∨i=4∨i=5∨i=6∨i=7∨i=8∨i=9∨i=10∨i=11∨i=12∨i=15:=by simp at hX;omega
  clear hfar hdep hX hi
  rcases hi8 with rfl|rfl|rfl|rfl|rfl|rfl|rfl|rfl|rfl|rfl|rfl|rfl|rfl|rfl
  all_goals (simp at ho;subst ho)
  ·have zz:=C0.out.below hW
   have z0:=zz.cell 0 _ rfl;have z1:=zz.cell 1 _ rfl;have z2:=zz.cell 2 _ rfl;have z3:=zz.cell 3 _ rfl
   exact .inl ⟨.agg #[.int .i64 p,.int .i64 c,.int .i64 h,.int .i64 s],W,by simp only[execOp,Act.eval,e6];go_simp,Bel.rfl' _,trivial,rfl⟩
  ·have d1:a'.tmps.getD 55 undef = .agg #[.int .i64 p,.int .i64 c,.int .i64 h,.int .i64 s]:=dep 0 (by omega) (by kernel_rfl)
   refine .inr ⟨31,#[.agg #[.int .i64 p,.int .i64 c,.int .i64 h,.int .i64 s]],by simp only[execOp,Act.eval,d1];go_simp,?_⟩
   refine (toVariant_any _ _ _ _ _).mono ?_
   rintro e W' ⟨rfl,hb'⟩
   exact⟨_,rfl,hb',trivial,rfl⟩
  ·have zz:=C1.out.below hW
   have z0:=zz.cell 0 _ rfl;have z1:=zz.cell 1 _ rfl;have z2:=zz.cell 2 _ rfl
   exact .inl ⟨.agg #[.int .i64 km,.bool kb,.bool kj],W,by simp only[execOp,Act.eval,e7];go_simp,Bel.rfl' _,trivial,rfl⟩
  ·have d1:a'.tmps.getD 57 undef = .agg #[.int .i64 km,.bool kb,.bool kj]:=dep 2 (by omega) (by kernel_rfl)
   refine .inr ⟨32,#[.agg #[.int .i64 km,.bool kb,.bool kj]],by simp only[execOp,Act.eval,d1];go_simp,?_⟩
   refine (toCubeRules_any _ _ _ _).mono ?_
   rintro e W' ⟨rfl,hb'⟩
   exact⟨_,rfl,hb',trivial,rfl⟩
  ·exact .inl ⟨.slice Y1 own.length y1,W,by simp only[execOp,Act.eval,e16];go_simp,Bel.rfl' _,trivial,rfl⟩
  ·exact .inl ⟨.slice Y2 other.length y2,W,by simp only[execOp,Act.eval,e17];go_simp,Bel.rfl' _,trivial,rfl⟩
  ·have zz:=C2.out.below hW
   have z0:=zz.cell 0 _ rfl;have z1:=zz.cell 1 _ rfl
   exact .inl ⟨.agg #[.int .i64 cv,.int .i64 co],W,by simp only[execOp,Act.eval,e10];go_simp,Bel.rfl' _,trivial,rfl⟩
  ·have d1:a'.tmps.getD 61 undef = .agg #[.int .i64 cv,.int .i64 co]:=dep 6 (by omega) (by kernel_rfl)
   refine .inr ⟨34,#[.agg #[.int .i64 cv,.int .i64 co]],by simp only[execOp,Act.eval,d1];go_simp,?_⟩
   refine (toCube_any _ _ _).mono ?_
   rintro e W' ⟨rfl,hb'⟩
   exact⟨_,rfl,hb',trivial,rfl⟩
  ·have zz:=C3.out.below hW
   have z0:=zz.cell 0 _ rfl;have z1:=zz.cell 1 _ rfl
   exact .inl ⟨.agg #[.int .i64 ra,.int .i64 rb],W,by simp only[execOp,Act.eval,e11];go_simp,Bel.rfl' _,trivial,rfl⟩
  ·have d1:a'.tmps.getD 63 undef = .agg #[.int .i64 ra,.int .i64 rb]:=dep 8 (by omega) (by kernel_rfl)
   refine .inr ⟨45,#[.agg #[.int .i64 ra,.int .i64 rb]],by simp only[execOp,Act.eval,d1];go_simp,?_⟩
   refine (toRoll_any _ _ _).mono ?_
   rintro e W' ⟨rfl,hb'⟩
   exact⟨_,rfl,hb',trivial,rfl⟩
  ·have d56:a'.tmps.getD 56 undef = .agg #[.int .i64 p,.int .i64 c,.int .i64 h,.int .i64 s]:=dep 1 (by omega) (by kernel_rfl)
   have d58:a'.tmps.getD 58 undef = .agg #[.int .i64 km,.bool kb,.bool kj]:=dep 3 (by omega) (by kernel_rfl)
   have d59:a'.tmps.getD 59 undef = .slice Y1 own.length y1:=dep 4 (by omega) (by kernel_rfl)
   have d60:a'.tmps.getD 60 undef = .slice Y2 other.length y2:=dep 5 (by omega) (by kernel_rfl)
   have d62:a'.tmps.getD 62 undef = .agg #[.int .i64 cv,.int .i64 co]:=dep 7 (by omega) (by kernel_rfl)
   have d64:a'.tmps.getD 64 undef = .agg #[.int .i64 ra,.int .i64 rb]:=dep 9 (by omega) (by kernel_rfl)
   refine .inr ⟨46,#[.agg #[.int .i64 p,.int .i64 c,.int .i64 h,.int .i64 s],.agg #[.int .i64 km,.bool kb,.bool kj],.slice Y1 own.length y1,.slice Y2 other.length y2,.agg #[.int .i64 cv,.int .i64 co],.agg #[.int .i64 ra,.int .i64 rb]],by simp only[execOp,Act.eval,d56,d58,d59,d60,d62,d64];go_simp,?_⟩
   refine (CI.out W _ _ _ _ ((H1.out.sl rfl).1.below hW) ((H2.out.sl rfl).1.below hW) H1k.out H2k.out).mono ?_
   rintro e W' ⟨u,bs,rfl,hbs,ho,hb'⟩
   exact⟨_,rfl,hb',trivial,u,bs,rfl,Nat.le_trans (Below.size hW) hbs,ho⟩
  ·obtain⟨u,bs,d1,h1,h2⟩:RowT (fun W b v=>OwnS W b 2 (v) xs) V4.heap.size [.agg #[.int .i64 r1,.int .i64 r2],.int .i64 r3] (a'.tmps.getD 65 undef) W:=dep 10 (by omega) (by kernel_rfl)
   replace d1:a'.tmps.getD 65 undef = .tuple #[u,.agg #[.int .i64 r1,.int .i64 r2],.int .i64 r3]:=d1
   exact .inl ⟨.tuple #[u,.agg #[.int .i64 r1,.int .i64 r2],.int .i64 r3],W,by simp only[execOp,Act.eval,d1];go_simp,Bel.rfl' _,trivial,u,bs,rfl,h1,h2⟩
  ·obtain⟨u,bs,d1,h1,h2⟩:RowT (fun W b v=>OwnS W b 2 (v) xs) V4.heap.size [.agg #[.int .i64 r1,.int .i64 r2],.int .i64 r3] (a'.tmps.getD 54 undef) W:=dep 11 (by omega) (by kernel_rfl)
   replace d1:a'.tmps.getD 54 undef = .tuple #[u,.agg #[.int .i64 r1,.int .i64 r2],.int .i64 r3]:=d1
   exact .inl ⟨u,W,by simp only[execOp,Act.eval,d1];go_simp,Bel.rfl' _,trivial,bs,h1,h2⟩
  ·exact .inl ⟨.pointer (some ⟨W.heap.size,0,none⟩),W.alloc (.cells #[.int .i64 0,.int .i64 0] 35),by kernel_rfl,Bel.alloc _ _,trivial,alcX_new _ _ _ (Below.size hW)⟩
 intro v V5 hW hIW hg
 have g0:v 0 = .agg #[.int .i64 p,.int .i64 c,.int .i64 h,.int .i64 s]:=hg 0 (by omega)
 have g1:v 1 = .agg #[.int .i64 p,.int .i64 c,.int .i64 h,.int .i64 s]:=hg 1 (by omega)
 have g2:v 2 = .agg #[.int .i64 km,.bool kb,.bool kj]:=hg 2 (by omega)
 have g3:v 3 = .agg #[.int .i64 km,.bool kb,.bool kj]:=hg 3 (by omega)
 have g4:v 4 = .slice Y1 own.length y1:=hg 4 (by omega)
 have g5:v 5 = .slice Y2 other.length y2:=hg 5 (by omega)
 have g6:v 6 = .agg #[.int .i64 cv,.int .i64 co]:=hg 6 (by omega)
 have g7:v 7 = .agg #[.int .i64 cv,.int .i64 co]:=hg 7 (by omega)
 have g8:v 8 = .agg #[.int .i64 ra,.int .i64 rb]:=hg 8 (by omega)
 have g9:v 9 = .agg #[.int .i64 ra,.int .i64 rb]:=hg 9 (by omega)
 obtain⟨_,_,g10,_,_⟩:RowT (fun W b v=>OwnS W b 2 (v) xs) V4.heap.size [.agg #[.int .i64 r1,.int .i64 r2],.int .i64 r3] (v 10) V5:=hg 10 (by omega)
 obtain⟨_,_,g11,_,_⟩:RowT (fun W b v=>OwnS W b 2 (v) xs) V4.heap.size [.agg #[.int .i64 r1,.int .i64 r2],.int .i64 r3] (v 11) V5:=hg 11 (by omega)
 obtain⟨bs,hbs,ho⟩:RowE (fun W b v=>OwnS W b 2 (v) xs) V4.heap.size (v 12) V5:=hg 12 (by omega)
 obtain⟨Gg,cg,g12,-,-⟩:=ho.read;rw[g12]at ho
 have g13:v 13 = .agg #[.int .i64 r1,.int .i64 r2]:=hg 13 (by omega)
 have g14:v 14 = .int .i64 r3:=hg 14 (by omega)
 obtain⟨bg15,g15,glbg15,Abg15,htybg15⟩:AlcX V4.heap.size (35) [.int .i64 0,.int .i64 0] (v 15) V5:=hg 15 (by omega)
 simp only[List.drop_succ_cons,List.drop_zero,putV,dsBestMoneyResult8,g0,g1,g2,g3,g4,g5,g6,g7,g8,g9,g10,g11,g12,g13,g14,g15,Act.put]
 clear g0 g1 g2 g3 g4 g5 g6 g7 g8 g9 g10 g11 g12 g13 g14 g15 hg hIW;have hb:=hW.out;have hbw:V4.heap.size≤bs:=hbs;clear hW hbs
 have Nbg15:=Lib.hid (own_ne ho htybg15 (by decide))
 clear htybg15;have ybg15_0:=Abg15.cell 0 _ rfl;have xbg15_0:=Abg15.froz 0 _ rfl;have ybg15_1:=Abg15.cell 1 _ rfl;have xbg15_1:=Abg15.froz 1 _ rfl;have ylbg15:=Abg15.lt;replace Abg15:=Lib.hid Abg15;have ho:=Lib.hid ho;have hb:=Lib.hid hb;have hbw:=Lib.hid hbw
 go_wp2_with (fail)
 obtain⟨V6,hV⟩:∃V,V=((V5.setCell ⟨bg15,0,none⟩ (.int .i64 r1)).setCell ⟨bg15,1,none⟩ (.int .i64 r2)):=⟨_,rfl⟩;rw[← hV]
 have hb3:Below V4.heap.size V4 V6:=by rw[hV];exact (Below.setCell (p:=⟨bg15,1,none⟩) (Below.setCell (p:=⟨bg15,0,none⟩) hb.out glbg15 _) glbg15 _)
 have Gbg15:Hid (Cel V6 bg15 [.int .i64 r1,.int .i64 r2]):=by rw[hV];exact ((Abg15.out.st (by simp)).st (by simp))
 have ho3:OwnS V6 bs 2 (.slice Gg xs.length cg) xs:=by rw[hV];exact ((Frm.set _ bg15 1 _).own ((Frm.set _ bg15 0 _).own ho.out (fun j hj h=>Nbg15.out j hj h)) (fun j hj h=>Nbg15.out j hj h))
 have hbw:=hbw.out;clear hV hb ho;clear Abg15 ylbg15 ybg15_0 xbg15_0 ybg15_1 xbg15_1;have hb:=hb3;have ho:=ho3;clear hb3 ho3;replace Hw:=Lib.hid (Hw.out.below hb);replace H1:=Lib.hid (H1.out.below hb);replace H2:=Lib.hid (H2.out.below hb)
 have uV6:=Below.size (show Below V4.heap.size V4 V6 from hb)
 replace C0:=Lib.hid (C0.out.below hb);replace C1:=Lib.hid (C1.out.below hb);replace C2:=Lib.hid (C2.out.below hb);replace C3:=Lib.hid (C3.out.below hb);replace Gbw17:=Lib.hid (Gbw17.out.below hb);replace Sown:=Lib.hid (Sown.out.below hb);replace Sother:=Lib.hid (Sother.out.below hb);replace HB:=Lib.hid (Bel.trans HB.out hb);clear hb
 have UHg:Hid (∀k,(.slice Gg xs.length cg:Value).ownBlock=some k→k<V6.heap.size):=fun k hk=>(ho.lt k hk).2
 have Hg:=Lib.hid ho;clear ho;have bg:=hbw;clear hbw;have z0Gbg15:bg15<V6.heap.size:=Gbg15.out.lt
 have nr3:(r3 != r3)=false:=by simp
 refine (eqInt64S_yes _ _ _ _ _ _ _ (Hg.out.sl rfl).1 (Hw.out.sl rfl).1 (by omega)).mono ?_
 rintro e V7 ⟨rfl,hb⟩
 replace Hw:=Lib.hid (Hw.out.below hb);replace H1:=Lib.hid (H1.out.below hb);replace H2:=Lib.hid (H2.out.below hb);replace Hg:=Lib.hid (Hg.out.below hb)
 have uV7:=Below.size (show Below V6.heap.size V6 V7 from hb)
 replace C0:=Lib.hid (C0.out.below hb);replace C1:=Lib.hid (C1.out.below hb);replace C2:=Lib.hid (C2.out.below hb);replace C3:=Lib.hid (C3.out.below hb);replace Gbw17:=Lib.hid (Gbw17.out.below hb);replace Gbg15:=Lib.hid (Gbg15.out.below hb);replace Sown:=Lib.hid (Sown.out.below hb);replace Sother:=Lib.hid (Sother.out.below hb);replace HB:=Lib.hid (Bel.trans HB.out hb);clear hb;have cC0_0:=C0.out.cell 0 _ rfl;have cC0_1:=C0.out.cell 1 _ rfl;have cC0_2:=C0.out.cell 2 _ rfl;have cC0_3:=C0.out.cell 3 _ rfl;have cC1_0:=C1.out.cell 0 _ rfl;have cC1_1:=C1.out.cell 1 _ rfl;have cC1_2:=C1.out.cell 2 _ rfl;have cC2_0:=C2.out.cell 0 _ rfl;have cC2_1:=C2.out.cell 1 _ rfl;have cC3_0:=C3.out.cell 0 _ rfl;have cC3_1:=C3.out.cell 1 _ rfl;have cGbw17_0:=Gbw17.out.cell 0 _ rfl;have cGbw17_1:=Gbw17.out.cell 1 _ rfl;have cGbg15_0:=Gbg15.out.cell 0 _ rfl;have cGbg15_1:=Gbg15.out.cell 1 _ rfl;have zC0:=C0.out.lt;have zC1:=C1.out.lt;have zC2:=C2.out.lt;have zC3:=C3.out.lt;have zGbw17:=Gbw17.out.lt;have zGbg15:=Gbg15.out.lt
 go_wp2_with (fail)
 refine (eqExact_own _ _ _).mono ?_
 rintro e V8 ⟨rfl,hb⟩
 clear cC0_0 cC0_1 cC0_2 cC0_3 zC0 cC1_0 cC1_1 cC1_2 zC1 cC2_0 cC2_1 zC2 cC3_0 cC3_1 zC3 cGbw17_0 cGbw17_1 zGbw17 cGbg15_0 cGbg15_1 zGbg15;replace Hw:=Lib.hid (Hw.out.below hb);replace H1:=Lib.hid (H1.out.below hb);replace H2:=Lib.hid (H2.out.below hb);replace Hg:=Lib.hid (Hg.out.below hb)
 have uV8:=Below.size (show Below V7.heap.size V7 V8 from hb)
 replace C0:=Lib.hid (C0.out.below hb);replace C1:=Lib.hid (C1.out.below hb);replace C2:=Lib.hid (C2.out.below hb);replace C3:=Lib.hid (C3.out.below hb);replace Gbw17:=Lib.hid (Gbw17.out.below hb);replace Gbg15:=Lib.hid (Gbg15.out.below hb);replace Sown:=Lib.hid (Sown.out.below hb);replace Sother:=Lib.hid (Sother.out.below hb);replace HB:=Lib.hid (Bel.trans HB.out hb);clear hb
 go_wp2_with (fail)
 refine (toInt64S_any _ _ _ _ _ Sown.out hn').mono ?_
 rintro e V9 ⟨Z1,u1,rfl,ho,hb⟩
 have U:=Lib.hid (ho.sl rfl).1;clear ho;replace Hw:=Lib.hid (Hw.out.below hb);replace H1:=Lib.hid (H1.out.below hb);replace H2:=Lib.hid (H2.out.below hb);replace Hg:=Lib.hid (Hg.out.below hb)
 have uV9:=Below.size (show Below V8.heap.size V8 V9 from hb)
 replace C0:=Lib.hid (C0.out.below hb);replace C1:=Lib.hid (C1.out.below hb);replace C2:=Lib.hid (C2.out.below hb);replace C3:=Lib.hid (C3.out.below hb);replace Gbw17:=Lib.hid (Gbw17.out.below hb);replace Gbg15:=Lib.hid (Gbg15.out.below hb);replace Sown:=Lib.hid (Sown.out.below hb);replace Sother:=Lib.hid (Sother.out.below hb);replace HB:=Lib.hid (Bel.trans HB.out hb);clear hb
 go_wp2_with (fail)
 refine (eqInt64S_yes _ _ _ _ _ _ _ (H1.out.sl rfl).1 U.out oown).mono ?_
 rintro e V10 ⟨rfl,hb⟩
 replace Hw:=Lib.hid (Hw.out.below hb);replace H1:=Lib.hid (H1.out.below hb);replace H2:=Lib.hid (H2.out.below hb);replace Hg:=Lib.hid (Hg.out.below hb)
 have uV10:=Below.size (show Below V9.heap.size V9 V10 from hb)
 replace C0:=Lib.hid (C0.out.below hb);replace C1:=Lib.hid (C1.out.below hb);replace C2:=Lib.hid (C2.out.below hb);replace C3:=Lib.hid (C3.out.below hb);replace Gbw17:=Lib.hid (Gbw17.out.below hb);replace Gbg15:=Lib.hid (Gbg15.out.below hb);replace Sown:=Lib.hid (Sown.out.below hb);replace Sother:=Lib.hid (Sother.out.below hb);replace U:=Lib.hid (U.out.below hb);replace HB:=Lib.hid (Bel.trans HB.out hb);clear hb;clear U
 go_wp2_with (fail)
 refine (toInt64S_any _ _ _ _ _ Sother.out hm').mono ?_
 rintro e V11 ⟨Z2,u2,rfl,ho,hb⟩
 have U:=Lib.hid (ho.sl rfl).1;clear ho;replace Hw:=Lib.hid (Hw.out.below hb);replace H1:=Lib.hid (H1.out.below hb);replace H2:=Lib.hid (H2.out.below hb);replace Hg:=Lib.hid (Hg.out.below hb)
 have uV11:=Below.size (show Below V10.heap.size V10 V11 from hb)
 replace C0:=Lib.hid (C0.out.below hb);replace C1:=Lib.hid (C1.out.below hb);replace C2:=Lib.hid (C2.out.below hb);replace C3:=Lib.hid (C3.out.below hb);replace Gbw17:=Lib.hid (Gbw17.out.below hb);replace Gbg15:=Lib.hid (Gbg15.out.below hb);replace Sown:=Lib.hid (Sown.out.below hb);replace Sother:=Lib.hid (Sother.out.below hb);replace HB:=Lib.hid (Bel.trans HB.out hb);clear hb
 go_wp2_with (fail)
 refine (eqInt64S_yes _ _ _ _ _ _ _ (H2.out.sl rfl).1 U.out oother).mono ?_
 rintro e V12 ⟨rfl,hb⟩
 replace Hw:=Lib.hid (Hw.out.below hb);replace H1:=Lib.hid (H1.out.below hb);replace H2:=Lib.hid (H2.out.below hb);replace Hg:=Lib.hid (Hg.out.below hb)
 have uV12:=Below.size (show Below V11.heap.size V11 V12 from hb)
 replace C0:=Lib.hid (C0.out.below hb);replace C1:=Lib.hid (C1.out.below hb);replace C2:=Lib.hid (C2.out.below hb);replace C3:=Lib.hid (C3.out.below hb);replace Gbw17:=Lib.hid (Gbw17.out.below hb);replace Gbg15:=Lib.hid (Gbg15.out.below hb);replace Sown:=Lib.hid (Sown.out.below hb);replace Sother:=Lib.hid (Sother.out.below hb);replace U:=Lib.hid (U.out.below hb);replace HB:=Lib.hid (Bel.trans HB.out hb);clear hb;clear U;clear Sown;clear Sother
 go_wp2_with (fail)
 have M:=markInt64S_any Y1 own.length y1 _ _ own (1) V12 H1.out oown (by omega)
 obtain⟨K1,hK1⟩:∃K:Int,((1+own.length:Nat):Int)=K:=⟨_,rfl⟩
 have hKp1:0≤K1:=by omega
 have hKn1:¬K1<0:=by omega
 rw[hK1]at M
 refine M.mono ?_
 rintro e V13 ⟨rfl,-,hg⟩
 clear M;have hf:=Frm.of_grown hg;clear hg
 have LB:=fun j hj=>(H1.out.lt j hj).1
 replace C0:=Lib.hid (C0.out.frm hf (fun h=>by have:=LB _ h.symm;omega))
 replace C1:=Lib.hid (C1.out.frm hf (fun h=>by have:=LB _ h.symm;omega))
 replace C2:=Lib.hid (C2.out.frm hf (fun h=>by have:=LB _ h.symm;omega))
 replace C3:=Lib.hid (C3.out.frm hf (fun h=>by have:=LB _ h.symm;omega))
 replace Gbw17:=Lib.hid (Gbw17.out.frm hf (fun h=>by have:=LB _ h.symm;omega))
 replace Gbg15:=Lib.hid (Gbg15.out.frm hf (fun h=>by have:=UH1.out _ h.symm;omega))
 replace Hw:=Lib.hid (hf.own Hw.out (fun j hj h=>by have:=LB _ h.symm;have:=UHw.out _ hj;omega))
 replace H2:=Lib.hid (hf.own H2.out (fun j hj h=>by have:=UH1.out _ h.symm;have:=(H2.out.lt j hj).1;omega))
 replace Hg:=Lib.hid (hf.own Hg.out (fun j hj h=>by have:=UH1.out _ h.symm;have:=(Hg.out.lt j hj).1;omega))
 replace HB:=Lib.hid (show Bel w V13 from frm_lo HB.out hf (fun j h=>by have:=LB _ h.symm;omega))
 have uV13:=(hf).size;clear LB;clear hf H1 UH1
 go_wp2_with (fail)
 have M:=markInt64S_any Y2 other.length y2 _ _ other (1+own.length) V13 H2.out oother (by omega)
 obtain⟨K2,hK2⟩:∃K:Int,((1+own.length+other.length:Nat):Int)=K:=⟨_,rfl⟩
 have hKp2:0≤K2:=by omega
 have hKn2:¬K2<0:=by omega
 rw[hK1,hK2]at M;have HK2:=Lib.hid hK2;clear hK2
 refine M.mono ?_
 rintro e V14 ⟨rfl,-,hg⟩
 clear M;have hf:=Frm.of_grown hg;clear hg;have HK1:=Lib.hid hK1;clear hK1
 have LB:=fun j hj=>(H2.out.lt j hj).1
 replace C0:=Lib.hid (C0.out.frm hf (fun h=>by have:=LB _ h.symm;omega))
 replace C1:=Lib.hid (C1.out.frm hf (fun h=>by have:=LB _ h.symm;omega))
 replace C2:=Lib.hid (C2.out.frm hf (fun h=>by have:=LB _ h.symm;omega))
 replace C3:=Lib.hid (C3.out.frm hf (fun h=>by have:=LB _ h.symm;omega))
 replace Gbw17:=Lib.hid (Gbw17.out.frm hf (fun h=>by have:=LB _ h.symm;omega))
 replace Gbg15:=Lib.hid (Gbg15.out.frm hf (fun h=>by have:=UH2.out _ h.symm;omega))
 replace Hw:=Lib.hid (hf.own Hw.out (fun j hj h=>by have:=LB _ h.symm;have:=UHw.out _ hj;omega))
 replace Hg:=Lib.hid (hf.own Hg.out (fun j hj h=>by have:=UH2.out _ h.symm;have:=(Hg.out.lt j hj).1;omega))
 replace HB:=Lib.hid (show Bel w V14 from frm_lo HB.out hf (fun j h=>by have:=LB _ h.symm;omega))
 have uV14:=(hf).size;clear LB;clear hf H2 UH2
 go_wp2_with (fail)
 refine (eqInt64S_yes _ _ _ _ _ _ _ (Hg.out.sl rfl).1 (Hw.out.sl rfl).1 (by omega)).mono ?_
 rintro e V15 ⟨rfl,hb⟩
 replace Hw:=Lib.hid (Hw.out.below hb);replace Hg:=Lib.hid (Hg.out.below hb)
 have uV15:=Below.size (show Below V14.heap.size V14 V15 from hb)
 replace C0:=Lib.hid (C0.out.below hb);replace C1:=Lib.hid (C1.out.below hb);replace C2:=Lib.hid (C2.out.below hb);replace C3:=Lib.hid (C3.out.below hb);replace Gbw17:=Lib.hid (Gbw17.out.below hb);replace Gbg15:=Lib.hid (Gbg15.out.below hb);replace HB:=Lib.hid (Bel.trans HB.out hb);clear hb;have cC0_0:=C0.out.cell 0 _ rfl;have cC0_1:=C0.out.cell 1 _ rfl;have cC0_2:=C0.out.cell 2 _ rfl;have cC0_3:=C0.out.cell 3 _ rfl;have cC1_0:=C1.out.cell 0 _ rfl;have cC1_1:=C1.out.cell 1 _ rfl;have cC1_2:=C1.out.cell 2 _ rfl;have cC2_0:=C2.out.cell 0 _ rfl;have cC2_1:=C2.out.cell 1 _ rfl;have cC3_0:=C3.out.cell 0 _ rfl;have cC3_1:=C3.out.cell 1 _ rfl;have cGbw17_0:=Gbw17.out.cell 0 _ rfl;have cGbw17_1:=Gbw17.out.cell 1 _ rfl;have cGbg15_0:=Gbg15.out.cell 0 _ rfl;have cGbg15_1:=Gbg15.out.cell 1 _ rfl;have zC0:=C0.out.lt;have zC1:=C1.out.lt;have zC2:=C2.out.lt;have zC3:=C3.out.lt;have zGbw17:=Gbw17.out.lt;have zGbg15:=Gbg15.out.lt
 go_wp2_with (fail)
 refine (eqExact_own _ _ _).mono ?_
 rintro e V16 ⟨rfl,hb⟩
 clear cC0_0 cC0_1 cC0_2 cC0_3 zC0 cC1_0 cC1_1 cC1_2 zC1 cC2_0 cC2_1 zC2 cC3_0 cC3_1 zC3 cGbw17_0 cGbw17_1 zGbw17 cGbg15_0 cGbg15_1 zGbg15;replace Hw:=Lib.hid (Hw.out.below hb);replace Hg:=Lib.hid (Hg.out.below hb)
 have uV16:=Below.size (show Below V15.heap.size V15 V16 from hb)
 replace C0:=Lib.hid (C0.out.below hb);replace C1:=Lib.hid (C1.out.below hb);replace C2:=Lib.hid (C2.out.below hb);replace C3:=Lib.hid (C3.out.below hb);replace Gbw17:=Lib.hid (Gbw17.out.below hb);replace Gbg15:=Lib.hid (Gbg15.out.below hb);replace HB:=Lib.hid (Bel.trans HB.out hb);clear hb
 go_wp2_with (fail)
 have M:=markInt64S_any Gg xs.length cg _ _ xs 1 V16 Hg.out (by omega) (by omega)
 obtain⟨KM,hKM⟩:∃K:Int,((1+xs.length:Nat):Int)=K:=⟨_,rfl⟩
 have hMp:0≤KM:=by omega
 have hMn:¬KM<0:=by omega
 have hMM:(KM != KM)=false:=by simp
 rw[hKM]at M;have HKM:=Lib.hid hKM;clear hKM
 refine M.mono ?_
 rintro e V17 ⟨rfl,ho,hg⟩
 clear M;have hf:=Frm.of_grown hg;clear hg
 have LB:=fun j hj=>(Hg.out.lt j hj).1
 replace C0:=Lib.hid (C0.out.frm hf (fun h=>by have:=LB _ h.symm;omega))
 replace C1:=Lib.hid (C1.out.frm hf (fun h=>by have:=LB _ h.symm;omega))
 replace C2:=Lib.hid (C2.out.frm hf (fun h=>by have:=LB _ h.symm;omega))
 replace C3:=Lib.hid (C3.out.frm hf (fun h=>by have:=LB _ h.symm;omega))
 replace Gbw17:=Lib.hid (Gbw17.out.frm hf (fun h=>by have:=LB _ h.symm;omega))
 replace Gbg15:=Lib.hid (Gbg15.out.frm hf (fun h=>Nbg15.out _ h.symm rfl))
 replace Hw:=Lib.hid (hf.own Hw.out (fun j hj h=>by have:=LB _ h.symm;have:=UHw.out _ hj;omega))
 replace HB:=Lib.hid (show Bel w V17 from frm_lo HB.out hf (fun j h=>by have:=LB _ h.symm;omega))
 have uV17:=(hf).size;clear LB;replace Hg:=Lib.hid ho;clear ho hf
 go_wp2_with (fail)
 have M:=heldInt64S_yes Gg xs.length cg 1 V17 (Hg.out.sl rfl).1 (by omega) (by omega)
 rw[HKM.out]at M
 refine M.mono ?_
 rintro e W' ⟨rfl,rfl⟩
 clear M;have Sown:=Lib.hid (Aown.out.below HB.out);have Sother:=Lib.hid (Aother.out.below HB.out);have cC0_0:=C0.out.cell 0 _ rfl;have cC0_1:=C0.out.cell 1 _ rfl;have cC0_2:=C0.out.cell 2 _ rfl;have cC0_3:=C0.out.cell 3 _ rfl;have cC1_0:=C1.out.cell 0 _ rfl;have cC1_1:=C1.out.cell 1 _ rfl;have cC1_2:=C1.out.cell 2 _ rfl;have cC2_0:=C2.out.cell 0 _ rfl;have cC2_1:=C2.out.cell 1 _ rfl;have cC3_0:=C3.out.cell 0 _ rfl;have cC3_1:=C3.out.cell 1 _ rfl;have cGbw17_0:=Gbw17.out.cell 0 _ rfl;have cGbw17_1:=Gbw17.out.cell 1 _ rfl;have cGbg15_0:=Gbg15.out.cell 0 _ rfl;have cGbg15_1:=Gbg15.out.cell 1 _ rfl;have zC0:=C0.out.lt;have zC1:=C1.out.lt;have zC2:=C2.out.lt;have zC3:=C3.out.lt;have zGbw17:=Gbw17.out.lt;have zGbg15:=Gbg15.out.lt
 go_wp2_with (fail)
 clear cC0_0 cC0_1 cC0_2 cC0_3 zC0 cC1_0 cC1_1 cC1_2 zC1 cC2_0 cC2_1 zC2 cC3_0 cC3_1 zC3 cGbw17_0 cGbw17_1 zGbw17 cGbg15_0 cGbg15_1 zGbg15
 refine wp_region_early 18 (fun i=>i == 15||i == 16) dsBestMoneyResult28 Bel (fun _=>True) (GL [Eqv (.agg #[.int .i64 p,.int .i64 c,.int .i64 h,.int .i64 s]),Eqv (.agg #[.int .i64 p,.int .i64 c,.int .i64 h,.int .i64 s]),Eqv (.agg #[.int .i64 km,.bool kb,.bool kj]),Eqv (.agg #[.int .i64 km,.bool kb,.bool kj]),Eqv (.slice A n ca),Cpy own,Eqv (.slice B m cb),Cpy other,Eqv (.agg #[.int .i64 cv,.int .i64 co]),Eqv (.agg #[.int .i64 cv,.int .i64 co]),Eqv (.agg #[.int .i64 ra,.int .i64 rb]),Eqv (.agg #[.int .i64 ra,.int .i64 rb]),RowT (fun W b v=>OwnS W b 2 (v) xs) V17.heap.size [.agg #[.int .i64 r1,.int .i64 r2],.int .i64 r3],RowT (fun W b v=>OwnS W b 2 (v) xs) V17.heap.size [.agg #[.int .i64 r1,.int .i64 r2],.int .i64 r3],RowE (fun W b v=>OwnS W b 2 (v) xs) V17.heap.size,Eqv (.agg #[.int .i64 r1,.int .i64 r2]),Eqv (.int .i64 r3),AlcX V17.heap.size (35) [.int .i64 0,.int .i64 0]]) (by kernel_rfl) (by kernel_rfl) (fun _ _ _ _ _ h=>h) (fun _ _ _ h1 h2=>Bel.trans h1 h2) Bel.rfl' (GL.stab (by repeat (first|exact AllStb.nil|refine AllStb.cons (by first|exact stb_eq _|exact stb_cpy _|exact stb_rowT stO_I|exact stb_rowE stO_I|exact stb_alcX _ _ _) ?_))) (Bel.drew _) trivial ?_ ?_ ?_
 ·intro i o hi hX ho a' W hW hIW hfar hdep
  have e2:a'.tmps.getD 2 undef = .slice A n ca:=(hfar 2 (by decide)).trans rfl
  have e3:a'.tmps.getD 3 undef = .slice B m cb:=(hfar 3 (by decide)).trans rfl
  have e6:a'.tmps.getD 6 undef = .pointer (some ⟨w.heap.size,0,none⟩):=(hfar 6 (by decide)).trans rfl
  have e7:a'.tmps.getD 7 undef = .pointer (some ⟨w.heap.size+1,0,none⟩):=(hfar 7 (by decide)).trans rfl
  have e10:a'.tmps.getD 10 undef = .pointer (some ⟨w.heap.size+2,0,none⟩):=(hfar 10 (by decide)).trans rfl
  have e11:a'.tmps.getD 11 undef = .pointer (some ⟨w.heap.size+3,0,none⟩):=(hfar 11 (by decide)).trans rfl
  have dep:∀j,j<18→Region.waitsFor .any _ i j=true→GL [Eqv (.agg #[.int .i64 p,.int .i64 c,.int .i64 h,.int .i64 s]),Eqv (.agg #[.int .i64 p,.int .i64 c,.int .i64 h,.int .i64 s]),Eqv (.agg #[.int .i64 km,.bool kb,.bool kj]),Eqv (.agg #[.int .i64 km,.bool kb,.bool kj]),Eqv (.slice A n ca),Cpy own,Eqv (.slice B m cb),Cpy other,Eqv (.agg #[.int .i64 cv,.int .i64 co]),Eqv (.agg #[.int .i64 cv,.int .i64 co]),Eqv (.agg #[.int .i64 ra,.int .i64 rb]),Eqv (.agg #[.int .i64 ra,.int .i64 rb]),RowT (fun W b v=>OwnS W b 2 (v) xs) V17.heap.size [.agg #[.int .i64 r1,.int .i64 r2],.int .i64 r3],RowT (fun W b v=>OwnS W b 2 (v) xs) V17.heap.size [.agg #[.int .i64 r1,.int .i64 r2],.int .i64 r3],RowE (fun W b v=>OwnS W b 2 (v) xs) V17.heap.size,Eqv (.agg #[.int .i64 r1,.int .i64 r2]),Eqv (.int .i64 r3),AlcX V17.heap.size (35) [.int .i64 0,.int .i64 0]] j (a'.tmps.getD (dsBestMoneyResult28 j) undef) W:=hdep
  have hi8:i=15∨i=16:=by simpa using hX
  clear hfar hdep hX hi
  rcases hi8 with rfl|rfl
  all_goals (simp at ho;subst ho)
  ·obtain⟨u,bs,d1,h1,h2⟩:RowT (fun W b v=>OwnS W b 2 (v) xs) V17.heap.size [.agg #[.int .i64 r1,.int .i64 r2],.int .i64 r3] (a'.tmps.getD 130 undef) W:=dep 13 (by omega) (by kernel_rfl)
   replace d1:a'.tmps.getD 130 undef = .tuple #[u,.agg #[.int .i64 r1,.int .i64 r2],.int .i64 r3]:=d1
   exact⟨.agg #[.int .i64 r1,.int .i64 r2],fun W'=>by simp only[execOp,Act.eval,d1];go_simp,rfl⟩
  ·obtain⟨u,bs,d1,h1,h2⟩:RowT (fun W b v=>OwnS W b 2 (v) xs) V17.heap.size [.agg #[.int .i64 r1,.int .i64 r2],.int .i64 r3] (a'.tmps.getD 130 undef) W:=dep 13 (by omega) (by kernel_rfl)
   replace d1:a'.tmps.getD 130 undef = .tuple #[u,.agg #[.int .i64 r1,.int .i64 r2],.int .i64 r3]:=d1
   exact⟨.int .i64 r3,fun W'=>by simp only[execOp,Act.eval,d1];go_simp,rfl⟩
 ·intro i o hi hX ho a' W hW hIW hfar hdep
  have e2:a'.tmps.getD 2 undef = .slice A n ca:=(hfar 2 (by decide)).trans rfl
  have e3:a'.tmps.getD 3 undef = .slice B m cb:=(hfar 3 (by decide)).trans rfl
  have e6:a'.tmps.getD 6 undef = .pointer (some ⟨w.heap.size,0,none⟩):=(hfar 6 (by decide)).trans rfl
  have e7:a'.tmps.getD 7 undef = .pointer (some ⟨w.heap.size+1,0,none⟩):=(hfar 7 (by decide)).trans rfl
  have e10:a'.tmps.getD 10 undef = .pointer (some ⟨w.heap.size+2,0,none⟩):=(hfar 10 (by decide)).trans rfl
  have e11:a'.tmps.getD 11 undef = .pointer (some ⟨w.heap.size+3,0,none⟩):=(hfar 11 (by decide)).trans rfl
  have dep:∀j,j<18→Region.waitsFor .any _ i j=true→GL [Eqv (.agg #[.int .i64 p,.int .i64 c,.int .i64 h,.int .i64 s]),Eqv (.agg #[.int .i64 p,.int .i64 c,.int .i64 h,.int .i64 s]),Eqv (.agg #[.int .i64 km,.bool kb,.bool kj]),Eqv (.agg #[.int .i64 km,.bool kb,.bool kj]),Eqv (.slice A n ca),Cpy own,Eqv (.slice B m cb),Cpy other,Eqv (.agg #[.int .i64 cv,.int .i64 co]),Eqv (.agg #[.int .i64 cv,.int .i64 co]),Eqv (.agg #[.int .i64 ra,.int .i64 rb]),Eqv (.agg #[.int .i64 ra,.int .i64 rb]),RowT (fun W b v=>OwnS W b 2 (v) xs) V17.heap.size [.agg #[.int .i64 r1,.int .i64 r2],.int .i64 r3],RowT (fun W b v=>OwnS W b 2 (v) xs) V17.heap.size [.agg #[.int .i64 r1,.int .i64 r2],.int .i64 r3],RowE (fun W b v=>OwnS W b 2 (v) xs) V17.heap.size,Eqv (.agg #[.int .i64 r1,.int .i64 r2]),Eqv (.int .i64 r3),AlcX V17.heap.size (35) [.int .i64 0,.int .i64 0]] j (a'.tmps.getD (dsBestMoneyResult28 j) undef) W:=hdep
  have hi8:i=0∨i=1∨i=2∨i=3∨i=4∨i=5∨i=6∨i=7∨i=8∨i=9∨i=10∨i=11∨i=12∨i=13∨i=14∨i=17:=by simp at hX;omega
  clear hfar hdep hX hi
  rcases hi8 with rfl|rfl|rfl|rfl|rfl|rfl|rfl|rfl|rfl|rfl|rfl|rfl|rfl|rfl|rfl|rfl
  all_goals (simp at ho;subst ho)
  ·have zz:=C0.out.below hW
   have z0:=zz.cell 0 _ rfl;have z1:=zz.cell 1 _ rfl;have z2:=zz.cell 2 _ rfl;have z3:=zz.cell 3 _ rfl
   exact .inl ⟨.agg #[.int .i64 p,.int .i64 c,.int .i64 h,.int .i64 s],W,by simp only[execOp,Act.eval,e6];go_simp,Bel.rfl' _,trivial,rfl⟩
  ·have d1:a'.tmps.getD 131 undef = .agg #[.int .i64 p,.int .i64 c,.int .i64 h,.int .i64 s]:=dep 0 (by omega) (by kernel_rfl)
   refine .inr ⟨31,#[.agg #[.int .i64 p,.int .i64 c,.int .i64 h,.int .i64 s]],by simp only[execOp,Act.eval,d1];go_simp,?_⟩
   refine (toVariant_any _ _ _ _ _).mono ?_
   rintro e W' ⟨rfl,hb'⟩
   exact⟨_,rfl,hb',trivial,rfl⟩
  ·have zz:=C1.out.below hW
   have z0:=zz.cell 0 _ rfl;have z1:=zz.cell 1 _ rfl;have z2:=zz.cell 2 _ rfl
   exact .inl ⟨.agg #[.int .i64 km,.bool kb,.bool kj],W,by simp only[execOp,Act.eval,e7];go_simp,Bel.rfl' _,trivial,rfl⟩
  ·have d1:a'.tmps.getD 133 undef = .agg #[.int .i64 km,.bool kb,.bool kj]:=dep 2 (by omega) (by kernel_rfl)
   refine .inr ⟨32,#[.agg #[.int .i64 km,.bool kb,.bool kj]],by simp only[execOp,Act.eval,d1];go_simp,?_⟩
   refine (toCubeRules_any _ _ _ _).mono ?_
   rintro e W' ⟨rfl,hb'⟩
   exact⟨_,rfl,hb',trivial,rfl⟩
  ·exact .inl ⟨.slice A n ca,W,by simp only[execOp,Act.eval,e2];go_simp,Bel.rfl' _,trivial,rfl⟩
  ·have d1:a'.tmps.getD 135 undef = .slice A n ca:=dep 4 (by omega) (by kernel_rfl)
   refine .inr ⟨33,#[.slice A n ca],by simp only[execOp,Act.eval,d1];go_simp,?_⟩
   refine (toInt64S_any _ _ _ _ _ (Sown.out.below hW) hn').mono ?_
   rintro e W' ⟨X1,k1,rfl,ho1,hb'⟩
   exact⟨_,rfl,hb',trivial,X1,k1,rfl,(ho1.sl rfl).1,(ho1.sl rfl).2⟩
  ·exact .inl ⟨.slice B m cb,W,by simp only[execOp,Act.eval,e3];go_simp,Bel.rfl' _,trivial,rfl⟩
  ·have d1:a'.tmps.getD 137 undef = .slice B m cb:=dep 6 (by omega) (by kernel_rfl)
   refine .inr ⟨33,#[.slice B m cb],by simp only[execOp,Act.eval,d1];go_simp,?_⟩
   refine (toInt64S_any _ _ _ _ _ (Sother.out.below hW) hm').mono ?_
   rintro e W' ⟨X1,k1,rfl,ho1,hb'⟩
   exact⟨_,rfl,hb',trivial,X1,k1,rfl,(ho1.sl rfl).1,(ho1.sl rfl).2⟩
  ·have zz:=C2.out.below hW
   have z0:=zz.cell 0 _ rfl;have z1:=zz.cell 1 _ rfl
   exact .inl ⟨.agg #[.int .i64 cv,.int .i64 co],W,by simp only[execOp,Act.eval,e10];go_simp,Bel.rfl' _,trivial,rfl⟩
  ·have d1:a'.tmps.getD 139 undef = .agg #[.int .i64 cv,.int .i64 co]:=dep 8 (by omega) (by kernel_rfl)
   refine .inr ⟨34,#[.agg #[.int .i64 cv,.int .i64 co]],by simp only[execOp,Act.eval,d1];go_simp,?_⟩
   refine (toCube_any _ _ _).mono ?_
   rintro e W' ⟨rfl,hb'⟩
   exact⟨_,rfl,hb',trivial,rfl⟩
  ·have zz:=C3.out.below hW
   have z0:=zz.cell 0 _ rfl;have z1:=zz.cell 1 _ rfl
   exact .inl ⟨.agg #[.int .i64 ra,.int .i64 rb],W,by simp only[execOp,Act.eval,e11];go_simp,Bel.rfl' _,trivial,rfl⟩
  ·have d1:a'.tmps.getD 141 undef = .agg #[.int .i64 ra,.int .i64 rb]:=dep 10 (by omega) (by kernel_rfl)
   refine .inr ⟨45,#[.agg #[.int .i64 ra,.int .i64 rb]],by simp only[execOp,Act.eval,d1];go_simp,?_⟩
   refine (toRoll_any _ _ _).mono ?_
   rintro e W' ⟨rfl,hb'⟩
   exact⟨_,rfl,hb',trivial,rfl⟩
  ·have d132:a'.tmps.getD 132 undef = .agg #[.int .i64 p,.int .i64 c,.int .i64 h,.int .i64 s]:=dep 1 (by omega) (by kernel_rfl)
   have d134:a'.tmps.getD 134 undef = .agg #[.int .i64 km,.bool kb,.bool kj]:=dep 3 (by omega) (by kernel_rfl)
   obtain⟨X1,k1,d136,s1,l1⟩:Cpy own (a'.tmps.getD 136 undef) W:=dep 5 (by omega) (by kernel_rfl)
   obtain⟨X2,k2,d138,s2,l2⟩:Cpy other (a'.tmps.getD 138 undef) W:=dep 7 (by omega) (by kernel_rfl)
   have d140:a'.tmps.getD 140 undef = .agg #[.int .i64 cv,.int .i64 co]:=dep 9 (by omega) (by kernel_rfl)
   have d142:a'.tmps.getD 142 undef = .agg #[.int .i64 ra,.int .i64 rb]:=dep 11 (by omega) (by kernel_rfl)
   refine .inr ⟨46,#[.agg #[.int .i64 p,.int .i64 c,.int .i64 h,.int .i64 s],.agg #[.int .i64 km,.bool kb,.bool kj],.slice X1 own.length k1,.slice X2 other.length k2,.agg #[.int .i64 cv,.int .i64 co],.agg #[.int .i64 ra,.int .i64 rb]],by simp only[execOp,Act.eval,d132,d134,d136,d138,d140,d142];go_simp,?_⟩
   refine (CI.out W X1 k1 X2 k2 s1 s2 l1 l2).mono ?_
   rintro e W' ⟨u,bs,rfl,hbs,ho,hb'⟩
   exact⟨_,rfl,hb',trivial,u,bs,rfl,Nat.le_trans (Below.size hW) hbs,ho⟩
  ·obtain⟨u,bs,d1,h1,h2⟩:RowT (fun W b v=>OwnS W b 2 (v) xs) V17.heap.size [.agg #[.int .i64 r1,.int .i64 r2],.int .i64 r3] (a'.tmps.getD 143 undef) W:=dep 12 (by omega) (by kernel_rfl)
   replace d1:a'.tmps.getD 143 undef = .tuple #[u,.agg #[.int .i64 r1,.int .i64 r2],.int .i64 r3]:=d1
   exact .inl ⟨.tuple #[u,.agg #[.int .i64 r1,.int .i64 r2],.int .i64 r3],W,by simp only[execOp,Act.eval,d1];go_simp,Bel.rfl' _,trivial,u,bs,rfl,h1,h2⟩
  ·obtain⟨u,bs,d1,h1,h2⟩:RowT (fun W b v=>OwnS W b 2 (v) xs) V17.heap.size [.agg #[.int .i64 r1,.int .i64 r2],.int .i64 r3] (a'.tmps.getD 130 undef) W:=dep 13 (by omega) (by kernel_rfl)
   replace d1:a'.tmps.getD 130 undef = .tuple #[u,.agg #[.int .i64 r1,.int .i64 r2],.int .i64 r3]:=d1
   exact .inl ⟨u,W,by simp only[execOp,Act.eval,d1];go_simp,Bel.rfl' _,trivial,bs,h1,h2⟩
  ·exact .inl ⟨.pointer (some ⟨W.heap.size,0,none⟩),W.alloc (.cells #[.int .i64 0,.int .i64 0] 35),by kernel_rfl,Bel.alloc _ _,trivial,alcX_new _ _ _ (Below.size hW)⟩
 intro v V18 hW hIW hg
 have g0:v 0 = .agg #[.int .i64 p,.int .i64 c,.int .i64 h,.int .i64 s]:=hg 0 (by omega)
 have g1:v 1 = .agg #[.int .i64 p,.int .i64 c,.int .i64 h,.int .i64 s]:=hg 1 (by omega)
 have g2:v 2 = .agg #[.int .i64 km,.bool kb,.bool kj]:=hg 2 (by omega)
 have g3:v 3 = .agg #[.int .i64 km,.bool kb,.bool kj]:=hg 3 (by omega)
 have g4:v 4 = .slice A n ca:=hg 4 (by omega)
 obtain⟨_,_,g5,_,_⟩:Cpy own (v 5) V18:=hg 5 (by omega)
 have g6:v 6 = .slice B m cb:=hg 6 (by omega)
 obtain⟨_,_,g7,_,_⟩:Cpy other (v 7) V18:=hg 7 (by omega)
 have g8:v 8 = .agg #[.int .i64 cv,.int .i64 co]:=hg 8 (by omega)
 have g9:v 9 = .agg #[.int .i64 cv,.int .i64 co]:=hg 9 (by omega)
 have g10:v 10 = .agg #[.int .i64 ra,.int .i64 rb]:=hg 10 (by omega)
 have g11:v 11 = .agg #[.int .i64 ra,.int .i64 rb]:=hg 11 (by omega)
 obtain⟨_,_,g12,_,_⟩:RowT (fun W b v=>OwnS W b 2 (v) xs) V17.heap.size [.agg #[.int .i64 r1,.int .i64 r2],.int .i64 r3] (v 12) V18:=hg 12 (by omega)
 obtain⟨_,_,g13,_,_⟩:RowT (fun W b v=>OwnS W b 2 (v) xs) V17.heap.size [.agg #[.int .i64 r1,.int .i64 r2],.int .i64 r3] (v 13) V18:=hg 13 (by omega)
 obtain⟨bs,hbs,ho⟩:RowE (fun W b v=>OwnS W b 2 (v) xs) V17.heap.size (v 14) V18:=hg 14 (by omega)
 obtain⟨Gh,ch,g14,-,-⟩:=ho.read;rw[g14]at ho
 have g15:v 15 = .agg #[.int .i64 r1,.int .i64 r2]:=hg 15 (by omega)
 have g16:v 16 = .int .i64 r3:=hg 16 (by omega)
 obtain⟨bh17,g17,glbh17,Abh17,htybh17⟩:AlcX V17.heap.size (35) [.int .i64 0,.int .i64 0] (v 17) V18:=hg 17 (by omega)
 simp only[List.drop_succ_cons,List.drop_zero,putV,dsBestMoneyResult28,g0,g1,g2,g3,g4,g5,g6,g7,g8,g9,g10,g11,g12,g13,g14,g15,g16,g17,Act.put]
 clear g0 g1 g2 g3 g4 g5 g6 g7 g8 g9 g10 g11 g12 g13 g14 g15 g16 g17 hg hIW;have hb:=hW.out;have hbw:V17.heap.size≤bs:=hbs;clear hW hbs
 have Nbh17:=Lib.hid (own_ne ho htybh17 (by decide))
 clear htybh17;have ybh17_0:=Abh17.cell 0 _ rfl;have xbh17_0:=Abh17.froz 0 _ rfl;have ybh17_1:=Abh17.cell 1 _ rfl;have xbh17_1:=Abh17.froz 1 _ rfl;have ylbh17:=Abh17.lt;replace Abh17:=Lib.hid Abh17;have ho:=Lib.hid ho;have hb:=Lib.hid hb;have hbw:=Lib.hid hbw
 go_wp2_with (fail)
 obtain⟨V19,hV⟩:∃V,V=((V18.setCell ⟨bh17,0,none⟩ (.int .i64 r1)).setCell ⟨bh17,1,none⟩ (.int .i64 r2)):=⟨_,rfl⟩;rw[← hV]
 have hb3:Below V17.heap.size V17 V19:=by rw[hV];exact (Below.setCell (p:=⟨bh17,1,none⟩) (Below.setCell (p:=⟨bh17,0,none⟩) hb.out glbh17 _) glbh17 _)
 have Gbh17:Hid (Cel V19 bh17 [.int .i64 r1,.int .i64 r2]):=by rw[hV];exact ((Abh17.out.st (by simp)).st (by simp))
 have ho3:OwnS V19 bs 2 (.slice Gh xs.length ch) xs:=by rw[hV];exact ((Frm.set _ bh17 1 _).own ((Frm.set _ bh17 0 _).own ho.out (fun j hj h=>Nbh17.out j hj h)) (fun j hj h=>Nbh17.out j hj h))
 have hbw:=hbw.out;clear hV hb ho;clear Abh17 ylbh17 ybh17_0 xbh17_0 ybh17_1 xbh17_1;have hb:=hb3;have ho:=ho3;clear hb3 ho3;replace Hw:=Lib.hid (Hw.out.below hb);replace Hg:=Lib.hid (Hg.out.below hb)
 have uV19:=Below.size (show Below V17.heap.size V17 V19 from hb)
 replace C0:=Lib.hid (C0.out.below hb);replace C1:=Lib.hid (C1.out.below hb);replace C2:=Lib.hid (C2.out.below hb);replace C3:=Lib.hid (C3.out.below hb);replace Gbw17:=Lib.hid (Gbw17.out.below hb);replace Gbg15:=Lib.hid (Gbg15.out.below hb);replace Sown:=Lib.hid (Sown.out.below hb);replace Sother:=Lib.hid (Sother.out.below hb);replace HB:=Lib.hid (Bel.trans HB.out hb);clear hb
 have UHh:Hid (∀k,(.slice Gh xs.length ch:Value).ownBlock=some k→k<V19.heap.size):=fun k hk=>(ho.lt k hk).2
 have Hh:=Lib.hid ho;clear ho;have bh:=hbw;clear hbw;have z0Gbh17:bh17<V19.heap.size:=Gbh17.out.lt
 refine (eqInt64S_yes _ _ _ _ _ _ _ (Hh.out.sl rfl).1 (Hw.out.sl rfl).1 (by omega)).mono ?_
 rintro e V20 ⟨rfl,hb⟩
 replace Hw:=Lib.hid (Hw.out.below hb);replace Hg:=Lib.hid (Hg.out.below hb);replace Hh:=Lib.hid (Hh.out.below hb)
 have uV20:=Below.size (show Below V19.heap.size V19 V20 from hb)
 replace C0:=Lib.hid (C0.out.below hb);replace C1:=Lib.hid (C1.out.below hb);replace C2:=Lib.hid (C2.out.below hb);replace C3:=Lib.hid (C3.out.below hb);replace Gbw17:=Lib.hid (Gbw17.out.below hb);replace Gbg15:=Lib.hid (Gbg15.out.below hb);replace Gbh17:=Lib.hid (Gbh17.out.below hb);replace Sown:=Lib.hid (Sown.out.below hb);replace Sother:=Lib.hid (Sother.out.below hb);replace HB:=Lib.hid (Bel.trans HB.out hb);clear hb;have cC0_0:=C0.out.cell 0 _ rfl;have cC0_1:=C0.out.cell 1 _ rfl;have cC0_2:=C0.out.cell 2 _ rfl;have cC0_3:=C0.out.cell 3 _ rfl;have cC1_0:=C1.out.cell 0 _ rfl;have cC1_1:=C1.out.cell 1 _ rfl;have cC1_2:=C1.out.cell 2 _ rfl;have cC2_0:=C2.out.cell 0 _ rfl;have cC2_1:=C2.out.cell 1 _ rfl;have cC3_0:=C3.out.cell 0 _ rfl;have cC3_1:=C3.out.cell 1 _ rfl;have cGbw17_0:=Gbw17.out.cell 0 _ rfl;have cGbw17_1:=Gbw17.out.cell 1 _ rfl;have cGbg15_0:=Gbg15.out.cell 0 _ rfl;have cGbg15_1:=Gbg15.out.cell 1 _ rfl;have cGbh17_0:=Gbh17.out.cell 0 _ rfl;have cGbh17_1:=Gbh17.out.cell 1 _ rfl;have zC0:=C0.out.lt;have zC1:=C1.out.lt;have zC2:=C2.out.lt;have zC3:=C3.out.lt;have zGbw17:=Gbw17.out.lt;have zGbg15:=Gbg15.out.lt;have zGbh17:=Gbh17.out.lt
 go_wp2_with (fail)
 refine (eqExact_own _ _ _).mono ?_
 rintro e V21 ⟨rfl,hb⟩
 clear cC0_0 cC0_1 cC0_2 cC0_3 zC0 cC1_0 cC1_1 cC1_2 zC1 cC2_0 cC2_1 zC2 cC3_0 cC3_1 zC3 cGbw17_0 cGbw17_1 zGbw17 cGbg15_0 cGbg15_1 zGbg15 cGbh17_0 cGbh17_1 zGbh17;replace Hw:=Lib.hid (Hw.out.below hb);replace Hg:=Lib.hid (Hg.out.below hb);replace Hh:=Lib.hid (Hh.out.below hb)
 have uV21:=Below.size (show Below V20.heap.size V20 V21 from hb)
 replace C0:=Lib.hid (C0.out.below hb);replace C1:=Lib.hid (C1.out.below hb);replace C2:=Lib.hid (C2.out.below hb);replace C3:=Lib.hid (C3.out.below hb);replace Gbw17:=Lib.hid (Gbw17.out.below hb);replace Gbg15:=Lib.hid (Gbg15.out.below hb);replace Gbh17:=Lib.hid (Gbh17.out.below hb);replace Sown:=Lib.hid (Sown.out.below hb);replace Sother:=Lib.hid (Sother.out.below hb);replace HB:=Lib.hid (Bel.trans HB.out hb);clear hb
 go_wp2_with (fail)
 have M:=heldInt64S_yes Gg xs.length cg 1 V21 (Hg.out.sl rfl).1 (by omega) (by omega)
 rw[HKM.out]at M
 refine M.mono ?_
 rintro e W' ⟨rfl,rfl⟩
 clear M
 go_wp2_with (fail)
 go_ret
 exact⟨rfl,HB.out⟩
end Go.Proofs.YtgjapehpkakkbaaGreat
/- Part of one proof. There are no conditions. -/
import Derived.Test.YtkaiilmgemaljaaGreatRM7
import Derived.Test.YtkaiilmgemaljaaGreatRE1
set_option linter.unusedVariables false
set_option linter.unusedSimpArgs false
namespace Go.Proofs.YtkaiilmgemaljaaGreat
open Go.RowKit Ps Ra Ex Go.Maps Mo
theorem mkL_inj {a b a' b':Int} {c c':Cb} (ha:0<=a/\a<=1000000) (hb:0<=b/\b<=1000000) (hc:(0<=c.1/\c.1<=1000000)/\0<=c.2/\c.2<=1000000) (ha':0<=a'/\a'<=1000000) (hb':0<=b'/\b'<=1000000) (hc':(0<=c'.1/\c'.1<=1000000)/\0<=c'.2/\c'.2<=1000000) (h:mkL a b c=mkL a' b' c'):a=a'/\b=b'/\c=c':=by
 have h1:=kC (c:=c) ha.1 ha.2 hb.1 hb.2 hc.1.1 hc.1.2 hc.2.1 hc.2.2;have h2:=kC (c:=c') ha'.1 ha'.2 hb'.1 hb'.2 hc'.1.1 hc'.1.2 hc'.2.1 hc'.2.2;rw[<- h]at h2;have e:=keyM.inj h1 h2;unfold mkV at e
 simp only[Value.agg.injEq,Array.mk.injEq,List.cons.injEq,Value.int.injEq,true_and,and_true]at e
 exact⟨e.1,e.2.1,Prod.ext e.2.2.1 e.2.2.2⟩
noncomputable def keysM (N:Nat):List Lit:=(List.range N).flatMap fun a=>(List.range N).flatMap fun b=>(List.range 11).flatMap fun k=>(List.range 3).map fun o=>mkL (a:Nat) (b:Nat) (two k,(o:Nat))
theorem mem_keysM {N a b:Nat} {K:Nat} {c:Cb} (ha:a<N) (hb:b<N) (hK:K<=10) (hc:CbOk K c):mkL (a:Nat) (b:Nat) c∈keysM N:=by
 obtain⟨k,h1,h2,h3⟩:=hc;obtain⟨v,o⟩:=c
 simp only at h2 h3
 unfold keysM
 refine List.mem_flatMap.2 ⟨a,List.mem_range.2 ha,List.mem_flatMap.2 ⟨b,List.mem_range.2 hb,List.mem_flatMap.2 ⟨k,List.mem_range.2 (by omega),List.mem_map.2 ⟨o.toNat,List.mem_range.2 (by omega),?_⟩⟩⟩⟩
 rw[h2,show ((o.toNat:Nat):Int)=o by omega]
theorem i8 {α β:Type} (l:List α) (f:α->List β) (m:Nat) (h:∀a∈l,(f a).length=m):(l.flatMap f).length=l.length*m:=by
 induction l with
 | nil=>simp
 | cons a l ih =>
   rw [List.flatMap_cons, List.length_append, h a (by simp), ih fun x hx => h x (by simp [hx]), List.length_cons, Nat.add_mul]
   omega
theorem keysM_len {N:Nat} (h:N<=141):(keysM N).length<maxLen:=by
 have e:(keysM N).length=N*(N*33):=by
  unfold keysM
  rw[i8 _ _ (N*33) fun a _=>by
   rw[i8 _ _ 33 fun b _=>by
    rw[i8 _ _ 3 fun k _=>by simp];simp,List.length_range],List.length_range]
 rw[e];have h1:N*33<=141*33:=Nat.mul_le_mul_right _ h;have h2:N*(N*33)<=141*(141*33):=Nat.mul_le_mul h h1;unfold maxLen
 omega
structure MT where
 t:RT
 bm:Nat
 m1:Nat
 m2:Nat
 K:Nat
 bv:Bool
 jc:Bool
def MT.ru (m:MT):Ru:=⟨two m.K,m.bv⟩
def MT.S (m:MT):Nat->Prop:=fun k=>m.t.S k\/k=m.m1\/k=m.m2
def MT.cells (m:MT):List Value:=[.pointer (some ⟨m.t.bt,0,none⟩),.int .i64 (two m.K),.bool m.bv,.bool m.jc,.map (some m.m1),.map (some m.m2)]
structure MT.Ok (m:MT):Prop where
 t:m.t.Ok
 k:m.K<=10
 n:m.t.N<=141
noncomputable def MT.key (m:MT) (q r:List Int) (c:Cb):Lit:=mkL (num m.t.c q:Nat) (num m.t.c r:Nat) c
theorem Mo.CbOk.v1 {K:Nat} {c:Cb} (h:CbOk K c) (hK:K<=10):1<=c.1/\c.1<=1024/\0<=c.2/\c.2<=2:=by
 have:=h.v0;have:=(gU hK).2
 omega
theorem MT.num_le {m:MT} (hm:m.Ok) {q:List Int} (hq:PosP m.t.h m.t.c q):(0:Int)<=(num m.t.c q:Nat)/\((num m.t.c q:Nat):Int)<=1000000:=by
 have:=dj hq;have:=hm.n;unfold RT.N at this
 omega
theorem MT.key_inj {m:MT} (hm:m.Ok) {q r q' r':List Int} {c c':Cb} (hq:PosP m.t.h m.t.c q) (hr:PosP m.t.h m.t.c r) (hc:CbOk m.K c) (hq':PosP m.t.h m.t.c q') (hr':PosP m.t.h m.t.c r') (hc':CbOk m.K c') (h:m.key q r c=m.key q' r' c'):q=q'/\r=r'/\c=c':=by
 have b1:=hc.v1 hm.k;have b2:=hc'.v1 hm.k
 obtain⟨h1,h2,h3⟩:=mkL_inj (m.num_le hm hq) (m.num_le hm hr) (by omega) (m.num_le hm hq') (m.num_le hm hr') (by omega) h
 exact⟨iR hq hq' (by omega),iR hr hr' (by omega),h3⟩
theorem MT.keyOf_ok {m:MT} (hm:m.Ok) {q r:List Int} {c:Cb} (hq:PosP m.t.h m.t.c q) (hr:PosP m.t.h m.t.c r) (hc:CbOk m.K c):Go.keyOf Tryz.prog 208 (mkV (num m.t.c q:Nat) (num m.t.c r:Nat) c)=some (m.key q r c):=by
 have b1:=hc.v1 hm.k
 exact kC (m.num_le hm hq).1 (m.num_le hm hq).2 (m.num_le hm hr).1 (m.num_le hm hr).2 (by omega) (by omega) (by omega) (by omega)
def MonM (m:MT) (w:World) (g1 g2:Lit->Option Value):Prop:=
 MapV Tryz.prog 208 w m.m1 (keysM m.t.N) g1/\MapV Tryz.prog 208 w m.m2 (keysM m.t.N) g2/\
 (∀q r c,PosP m.t.h m.t.c q->PosP m.t.h m.t.c r->CbOk m.K c->∀u,g1 (m.key q r c)=some u->u=exV (rol m.t.s m.ru q r c)/\g2 (m.key q r c)=some (.bool (rol m.t.s m.ru q r c).isNone))
structure MonI (m:MT) (T:Nat->Prop) (w:World):Prop where
 ra:RaceI m.t T w
 tb:∀j v,m.cells[j]? = some v->w.cell? ⟨m.bm,j,none⟩=some v
 nt:¬T m.bm
 s1:T m.m1
 s2:T m.m2
 d:m.m1≠m.m2
 n1:¬m.t.S m.m1
 n2:¬m.t.S m.m2
 maps:∃g1 g2,MonM m w g1 g2
section
variable {m:MT} {T T' O:Nat->Prop} {w w':World} {g1 g2:Lit->Option Value}
theorem MonM.frm (h:MonM m w g1 g2) (hf:Frm O w w') (h1:¬O m.m1) (h2:¬O m.m2):MonM m w' g1 g2:=⟨h.1.frm hf h1,h.2.1.frm hf h2,h.2.2⟩
theorem MonI.sub (h:MonI m T w):∀k,m.S k->T k:=by
 rintro k (hk|rfl|rfl)
 ·exact h.ra.sub k hk
 ·exact h.s1
 ·exact h.s2
theorem MonI.own (h:MonI m T w) (hf:Frm O w w') (hO:∀k,O k->T k) (hn:∀k,O k->¬m.S k):MonI m T w':=
 let ⟨g1,g2,hm⟩:=h.maps
 ⟨h.ra.own hf hO fun k hk hs=>hn k hk (.inl hs),fun j v hv=>hf.cell' (h.tb j v hv) fun ho=>h.nt (hO _ ho),h.nt,h.s1,h.s2,h.d,h.n1,h.n2,g1,g2,hm.frm hf (fun ho=>hn _ ho (.inr (.inl rfl))) fun ho=>hn _ ho (.inr (.inr rfl))⟩
theorem MonI.below (h:MonI m T w) (hb:Below w.heap.size w w'):MonI m T w':=h.own (Frm.of_below hb) (fun _ h=>h.elim) (fun _ h=>h.elim)
theorem MonI.alloc (h:MonI m T w) (o:Obj):MonI m T (w.alloc o):=h.below ((Below.refl _ _).alloc (Nat.le_refl _) o)
theorem MonI.drew (h:MonI m T w):MonI m T w.drew:=h.below (drw (Below.refl _ _))
theorem MonI.ltB (h:MonI m T w):m.bm<w.heap.size:=World.block_lt_of_cell? w _ (h.tb 0 _ rfl)
theorem MonI.ltS (h:MonI m T w):∀k,m.S k->k<w.heap.size:=by
 obtain⟨_,_,h1,h2,_⟩:=h.maps
 rintro k (hk|rfl|rfl)
 ·exact h.ra.ltS k hk
 ·exact h1.lt
 ·exact h2.lt
theorem MonI.set (h:MonI m T w) (hS:∀k,T' k->T k\/w.heap.size<=k) (hs:∀k,m.S k->T' k):MonI m T' w:=
 ⟨h.ra.set hS fun k hk=>hs k (.inl hk),h.tb,fun hb=>by rcases hS _ hb with h'|h';exact h.nt h';have:=h.ltB;omega,hs _ (.inr (.inl rfl)),hs _ (.inr (.inr rfl)),h.d,h.n1,h.n2,h.maps⟩
theorem MonI.less (h:MonI m T w) (hS:∀k,T' k->T k) (hs:∀k,m.S k->T' k):MonI m T' w:=h.set (fun k hk=>.inl (hS k hk)) hs
theorem MonI.stored (h:MonI m T w) {b i:Nat} (v:Value) (hT:T b) (hS:¬m.S b):MonI m T (w.setCell ⟨b,i,none⟩ v):=
 h.own (Frm.set w b i v) (fun k hk=>by rw[hk];exact hT) (fun k hk=>by rw[hk];exact hS)
theorem MonI.wide (h:MonI m T w) (n:Nat):MonI m (ownT T w n) w:=h.set (fun k hk=>hk.elim .inl fun h=>.inr h.1) (fun k hk=>.inl (h.sub k hk))
theorem MonI.race (h:MonI m T w) (hI:RaceI m.t T w') (hf:Frm m.t.S w w'):MonI m T w':=
 let ⟨g1,g2,hm⟩:=h.maps
 ⟨hI,fun j v hv=>hf.cell' (h.tb j v hv) fun ho=>h.nt (h.ra.sub _ ho),h.nt,h.s1,h.s2,h.d,h.n1,h.n2,g1,g2,hm.frm hf h.n1 h.n2⟩
theorem MonI.grew {w1:World} {v v':Value} (h:MonI m (wth T v) w) (hg:w.grownBy w1 v.ownBlock) (hat:v'.ownBlock=v.ownBlock\/v'.ownBlock=some w.heap.size) (hn:∀k,some k=v.ownBlock->¬m.S k):MonI m (wth T v') w1:=by
 have h1:=h.set (T':=fun k=>wth T v k\/wth T v' k) (fun k hk=>hk.elim .inl (wth_new hat k)) (fun k hk=>.inl (h.sub k hk))
 have h2:=h1.own (Frm.of_grown hg) (fun k hk=>.inl (.inr hk.symm)) hn
 exact h2.less (fun k hk=>.inr hk) (fun k hk=>by
  have h3:=h.sub k hk
  rcases h3 with h3|h3
  ·exact .inl h3
  ·exact absurd hk (hn k h3.symm))
end
theorem frm_M {m:MT} {w w':World} {b:Nat} (hg:w.grownBy w' (some b)) (hb:m.S b):Frm m.S w w':=(Frm.of_grown hg).mono fun k hk=>by injection hk with hk;rw[hk];exact hb
theorem frm_R {m:MT} {w w':World} (hf:Frm m.t.S w w'):Frm m.S w w':=hf.mono fun k hk=>.inl hk
def RetMo (m:MT) (T:Nat->Prop) (w:World) (o:Option E) (e:Ending) (w':World):Prop:=e = .returned (.tuple #[exV o,.bool o.isSome])/\MonI m T w'/\Frm m.S w w'
theorem RetMo.mkY {m:MT} {T:Nat->Prop} {w w':World} {o:Option E} {n:Int} {d:Nat} (ho:o=some ⟨n,d⟩) (h1:MonI m T w') (h2:Frm m.S w w'):RetMo m T w o (.returned (.tuple #[.agg #[.int .i64 n,.int .i64 (d:Int)],.bool true])) w':=by subst ho;exact⟨rfl,h1,h2⟩
theorem RetMo.mkN {m:MT} {T:Nat->Prop} {w w':World} {o:Option E} (ho:o=none) (h1:MonI m T w') (h2:Frm m.S w w'):RetMo m T w o (.returned (.tuple #[.agg #[.int .i64 0,.int .i64 0],.bool false])) w':=by subst ho;exact⟨rfl,h1,h2⟩
def RetBv (m:MT) (T:Nat->Prop) (w:World) (o:Option (E×Bool)) (e:Ending) (w':World):Prop:=MonI m T w'/\Frm m.S w w'/\match o with
 | none=>∃a:Int,e = .returned (.tuple #[.agg #[.int .i64 0,.int .i64 0],.int .i64 a,.bool false])
 | some (x,b)=>e = .returned (.tuple #[.agg #[.int .i64 x.num,.int .i64 (x.depth:Int)],.int .i64 (if b then 4 else 3),.bool true])
def RetMB (m:MT) (T:Nat->Prop) (w:World) (l:List (List Int)) (o:Option (Nat×Nat×E)) (e:Ending) (w':World):Prop:=
 MonI m T w'/\Frm m.S w w'/\match o with
  | none=>e = .returned (.tuple #[.slice none 0 0,.agg #[.int .i64 0,.int .i64 0],.bool false])
  | some (k,a,x)=>∃v,e = .returned (.tuple #[v,.agg #[.int .i64 x.num,.int .i64 (x.depth:Int)],.bool true])/\BestV T w' m.t.h k a l v
def MonC (m:MT) (f:FuncId) (own other:List Int) (c:Cb) (R:(Nat->Prop)->World->Ending->World->Prop):Prop:=∀(T:Nat->Prop) (A B:Option Addr) (ca cb:Nat) (w:World),(∀k,w.heap.size<=k->¬T k)->MonI m T w->SQ T w A m.t.h own->m.t.h<=ca->SQ T w B m.t.h other->m.t.h<=cb->
 Calls Tryz.prog f #[.pointer (some ⟨m.bm,0,none⟩),.slice A m.t.h ca,.slice B m.t.h cb,.agg #[.int .i64 c.1,.int .i64 c.2]] w (R T w)
def RolC (m:MT) (own other:List Int) (c:Cb):Prop:=MonC m 110 own other c fun T w=>RetMo m T w (rol m.t.s m.ru own other c)
def EqvC (m:MT) (own other:List Int) (c:Cb):Prop:=MonC m 104 own other c fun T w=>RetMo m T w (eqv m.t.s m.ru own other c)
noncomputable def dbl (s:Nat) (r:Ru) (own other:List Int) (c:Cb):Option (E×Int):=dblG (sq s) r (rol s r) own other c
noncomputable def bev (s:Nat) (r:Ru) (own other:List Int) (c:Cb):Option (E×Bool):=bevG (sq s) r (rol s r) own other c
def DblC (m:MT) (own other:List Int) (c:Cb):Prop:=MonC m 118 own other c fun T w=>RetMo m T w ((dbl m.t.s m.ru own other c).map fun y=>y.1)
def BevC (m:MT) (own other:List Int) (c:Cb):Prop:=MonC m 198 own other c fun T w=>RetBv m T w (bev m.t.s m.ru own other c)
open Go.RowKit Mo Ps Ra Ex
theorem ltE_irr (B:Int) (z:E):ltE B z z=false:=by unfold ltE;simp
theorem les_cases (B:Int) (x:E) (c:Cb):(les B x c=x/\lesA B x c=1/\x≠whl c.1/\ltE B x (whl c.1)=true)\/(les B x c=whl c.1/\lesA B x c=2/\ltE B x (whl c.1)=false):=by
 cases h:ltE B x (whl c.1) with
 | true=>exact .inl ⟨if_pos h,if_pos h,(fun e=>by rw[e,ltE_irr]at h;cases h),rfl⟩
 | false=>exact .inr ⟨if_neg (by rw[h];decide),if_neg (by rw[h];decide),rfl⟩
end Go.Proofs.YtkaiilmgemaljaaGreat
namespace Go.Proofs.YtkaiilmgemaljaaGreat.Mo
open Go.Proofs.YtkaiilmgemaljaaGreat Go.Proofs.YtkaiilmgemaljaaGreat.Ex Go.Proofs.YtkaiilmgemaljaaGreat.Ps Go.Proofs.YtkaiilmgemaljaaGreat.Ra
def Bd (B C:Int) (x:E):Prop:=-(C*pw B x.depth)<=x.num/\x.num<=C*pw B x.depth
theorem bd_same {B C:Int} (hB:1<=B) {x y:E} (h:Same B x y) (hy:Bd B C y):Bd B C x:=by
 obtain⟨h1,h2⟩:=hy;have hp:=aD hB y.depth;have hq:=aD hB x.depth
 simp only[Same]at h
 have m1:=Int.mul_le_mul_of_nonneg_right h1 (show 0<=pw B x.depth by omega)
 have m2:=Int.mul_le_mul_of_nonneg_right h2 (show 0<=pw B x.depth by omega)
 rw[<- h]at m1 m2
 constructor
 ·refine Int.le_of_mul_le_mul_right (a:=pw B y.depth) ?_ (by omega)
  rw[Int.neg_mul,Int.mul_right_comm,<- Int.neg_mul]
  exact m1
 ·refine Int.le_of_mul_le_mul_right (a:=pw B y.depth) ?_ (by omega)
  rw[Int.mul_right_comm C]
  exact m2
theorem bd_mono {B C D:Int} (hB:1<=B) (h:C<=D) {x:E} (hx:Bd B C x):Bd B D x:=by
 have hp:=aD hB x.depth
 have:=Int.mul_le_mul_of_nonneg_right h (show 0<=pw B x.depth by omega)
 exact⟨by have:=hx.1;omega,by have:=hx.2;omega⟩
theorem bd_neg {B C:Int} {x:E} (h:Bd B C x):Bd B C (negE x):=⟨by have:=h.2;show _<=-x.num;show -(C*pw B x.depth)<=-x.num;omega,by have:=h.1;show -x.num<=C*pw B x.depth;omega⟩
theorem bd_whl {B C n:Int} (h1 : -C<=n) (h2:n<=C):Bd B C (whl n):=⟨by show -(C*1)<=n;omega,by show n<=C*1;omega⟩
theorem bd_zero {B C:Int} (h:0<=C):Bd B C aY:=⟨by show -(C*1)<=0;omega,by show 0<=C*1;omega⟩
theorem bd_up {B C:Int} (hB:1<=B) {x:E} (h:Bd B C x) {m:Nat} (hm:x.depth<=m):Bd B C ⟨x.num*pw B (m-x.depth),m⟩:=by
 have e:pw B m=pw B x.depth*pw B (m-x.depth):=by rw[<- fZ];congr 1;omega
 have hp:=aD hB (m-x.depth)
 have m1:=Int.mul_le_mul_of_nonneg_right h.1 (show 0<=pw B (m-x.depth) by omega)
 have m2:=Int.mul_le_mul_of_nonneg_right h.2 (show 0<=pw B (m-x.depth) by omega)
 constructor
 ·show -(C*pw B m)<=x.num*pw B (m-x.depth)
  rw[e,<- Int.mul_assoc,<- Int.neg_mul];exact m1
 ·show x.num*pw B (m-x.depth)<=C*pw B m
  rw[e,<- Int.mul_assoc];exact m2
theorem bd_mk {B C:Int} (hB:1<=B) {n:Int} {d:Nat} {x:E} (h:mk B n d=some x) (hn:Bd B C ⟨n,d⟩):Bd B C x:=bd_same hB (mk_val hB h).2 hn
theorem bd_sum {B C D:Int} (hB:1<=B) {x y:E} (hx:Bd B C x) (hy:Bd B D y):Bd B (C+D) ⟨x.num*pw B (max x.depth y.depth-x.depth)+y.num*pw B (max x.depth y.depth-y.depth),max x.depth y.depth⟩:=by
 have h1:=bd_up hB hx (m:=max x.depth y.depth) (by omega)
 have h2:=bd_up hB hy (m:=max x.depth y.depth) (by omega)
 have e:(C+D)*pw B (max x.depth y.depth)=C*pw B (max x.depth y.depth)+D*pw B (max x.depth y.depth):=Int.add_mul _ _ _;obtain⟨a1,a2⟩:=h1;obtain⟨b1,b2⟩:=h2
 simp only at a1 a2 b1 b2
 exact⟨by show -((C+D)*pw B (max x.depth y.depth))<=_;rw[e];simp only;omega,by show _<=(C+D)*pw B (max x.depth y.depth);rw[e];simp only;omega⟩
theorem bd_add {B C D:Int} (hB:1<=B) {x y z:E} (hx:Bd B C x) (hy:Bd B D y) (h:addE B x y=some z):Bd B (C+D) z:=bd_mk hB h (bd_sum hB hx hy)
theorem bd_scl {B C k:Int} (hB:1<=B) (hk:0<=k) {x z:E} (hx:Bd B C x) (h:sclE B x k=some z):Bd B (k*C) z:=by
 refine bd_mk hB h ?_
 have m1:=Int.mul_le_mul_of_nonneg_right hx.1 hk;have m2:=Int.mul_le_mul_of_nonneg_right hx.2 hk
 have e:k*C*pw B x.depth=C*pw B x.depth*k:=by rw[Int.mul_comm k C,Int.mul_right_comm]
 exact⟨by show -(k*C*pw B x.depth)<=x.num*k;rw[e,<- Int.neg_mul];exact m1,by show x.num*k<=k*C*pw B x.depth;rw[e];exact m2⟩
theorem bd_sumE {B C:Int} (hB:1<=B) (hC:0<=C) (l:List ((Nat×Nat)×E)):(∀rx∈l,Bd B C rx.2)->∀{t:E},sumE B l=some t->Bd B ((l.map fun rx=>bp rx.1).sum*C) t:=by
 induction l using aT with
 | nil =>
   intro _ t h
   unfold sumE at h
   simp at h
   rw [<- h]
   exact bd_zero (by simp)
 | snoc l rx ih =>
   intro hl t h
   obtain ⟨r, x⟩ := rx; rw [iI] at h
   cases hs : sumE B l with
   | none => rw [hs] at h; cases h
   | some u =>
     rw [hs] at h
     simp only [Option.bind_some] at h
     cases hm : sclE B x (bp r) with
     | none => rw [hm] at h; cases h
     | some y =>
       rw [hm] at h
       have h1 := ih (fun rx hr => hl rx (List.mem_append.2 (.inl hr))) hs
       have h2 := bd_scl hB (k := bp r) (by unfold bp; split <;> omega) (hl (r, x) (by simp)) hm
       have h3 := bd_add hB h1 h2 h; rw [List.map_append, List.sum_append]
       simp only [List.map_cons, List.map_nil, List.sum_cons, List.sum_nil, Int.add_zero]
       rw [Int.add_mul]
       exact h3
theorem weights_zip (rs:List (Nat×Nat)):∀xs:List E,((rs.zip xs).map fun rx=>bp rx.1).sum<=(rs.map bp).sum:=by
 induction rs with
 | nil=>intro xs;simp
 | cons r rs ih =>
   intro xs
   have hw : 0 <= bp r := by unfold bp; split <;> omega
   have hp : ∀ l : List (Nat × Nat), 0 <= (l.map bp).sum := fun l => by
     induction l with
     | nil => simp
     | cons a l ih => rw [List.map_cons, List.sum_cons]; have : 0 ≤ bp a := by unfold bp; split <;> omega
                      omega
   cases xs with
   | nil => have := hp rs; simp only [List.zip_nil_right, List.map_nil, List.sum_nil, List.map_cons, List.sum_cons]; omega
   | cons x xs => have := ih xs; simp only [List.zip_cons_cons, List.map_cons, List.sum_cons]; omega
theorem weights_all:∀s,s<7->((ad s).map bp).sum=sq s:=by decide
theorem bd_mean {s:Nat} (hs1:1<=s) (hs6:s<=6) {C:Int} (hC:0<=C) {xs:List E} (hx:∀x∈xs,Bd (sq s) C x) {e:E} (h:meanE (sq s) (ad s) xs=some e):Bd (sq s) C e:=by
 obtain⟨hB,_,_⟩:=sq_bd hs1 hs6;unfold meanE at h
 cases ht:sumE (sq s) ((ad s).zip xs) with
 | none=>rw[ht]at h;cases h
 | some t =>
   rw [ht] at h
   simp only [Option.bind_some] at h
   have h1 := bd_sumE hB hC _ (fun rx hr => hx rx.2 (List.of_mem_zip hr).2) ht
   have h2 := weights_zip (ad s) xs
   rw [weights_all s (by omega)] at h2
   have h3 := bd_mono hB (Int.mul_le_mul_of_nonneg_right h2 hC) h1
   refine bd_mk hB h ?_
   have e2 : C * pw (sq s) (t.depth + 1) = sq s * C * pw (sq s) t.depth := by rw [bG, <- Int.mul_assoc, Int.mul_comm (C * _) (sq s), Int.mul_assoc]
   exact ⟨by show -(C * pw (sq s) (t.depth + 1)) <= t.num; rw [e2]; exact h3.1, by show t.num <= C * pw (sq s) (t.depth + 1); rw [e2]; exact h3.2⟩
theorem bestS_pr {P:E->Prop} (h0:P aY) {B:Int} {f:List Int->Option E} (hf:∀q x,f q=some x->P x) {l:List (List Int)}:∀{t:Nat×Nat×E},bestS B f l=some t->P t.2.2:=by
 induction l using aT with
 | nil=>intro t h;rw[jf]at h;injection h with h;subst h;exact h0
 | snoc l q ih =>
   intro t h
   rw [bf] at h
   cases hs : bestS B f l with
   | none => rw [hs] at h; cases h
   | some u =>
     rw [hs] at h
     cases hq : f q with
     | none => rw [hq] at h; cases h
     | some x =>
       rw [hq] at h
       simp only [Option.bind_some, Option.map_some, Option.some.injEq] at h
       subst h
       split
       · exact hf q x hq
       · exact ih (t := u) hs
theorem allS_pr {P:E->Prop} {g:Nat×Nat->Option E} (hg:∀r x,g r=some x->P x) {l:List (Nat×Nat)}:∀{xs:List E},allS g l=some xs->∀x∈xs,P x:=by
 induction l using aT with
 | nil=>intro xs h x hx;unfold allS at h;simp at h;subst h;simp at hx
 | snoc l r ih =>
   intro xs h x hx
   rw [bV] at h
   cases hs : allS g l with
   | none => rw [hs] at h; cases h
   | some u =>
     rw [hs] at h
     cases hr : g r with
     | none => rw [hr] at h; cases h
     | some y =>
       rw [hr] at h
       simp only [Option.bind_some, Option.map_some, Option.some.injEq] at h
       subst h
       rcases List.mem_append.1 hx with hx | hx
       · exact ih hs x hx
       · have : x = y := by simpa using hx
         rw [this]; exact hg r y hr
section
variable {B:Int} {K:Nat} {bv:Bool} {R:RF} {own other:List Int} {c:Cb}
theorem CbOk.val {K:Nat} {c:Cb} (h:CbOk K c):1<=c.1/\c.1<=two K:=by
 obtain⟨k,h1,h2,_⟩:=h;rw[h2]
 exact⟨dr k,bP h1⟩
end
open Go.Proofs.YtkaiilmgemaljaaGreat Go.Proofs.YtkaiilmgemaljaaGreat.Ex Go.Proofs.YtkaiilmgemaljaaGreat.Ps Go.Proofs.YtkaiilmgemaljaaGreat.Ra
theorem fc {α β:Type} {o:Option α} {f:α->Option β} {y:β} (h:o.bind f=some y):∃x,o=some x/\f x=some y:=by
 cases o with
 | none=>cases h
 | some x=>exact⟨x,rfl,h⟩
theorem eD {α β:Type} {o:Option α} {f:α->β} {y:β} (h:o.map f=some y):∃x,o=some x/\f x=y:=by
 cases o with
 | none=>cases h
 | some x=>exact⟨x,rfl,Option.some.inj h⟩
section
variable {B:Int} {r:Ru} {R:RF} {own other:List Int}
theorem eqG_cases {c:Cb} {y:E} (h:eqG B r R own other c=some y):(own.sum=0/\y=whl c.1)\/(own.sum≠0/\other.sum=0/\y=whl (-c.1))\/
  (own.sum≠0/\other.sum≠0/\∃x,R own other c=some x/\((may r c=false/\y=x)\/(may r c=true/\∃d,dblG B r R own other c=some d/\y=if ltE B x d.1 then d.1 else x))):=by
 unfold eqG at h
 split at h
 ·rename_i h0
  exact .inl ⟨h0,(Option.some.inj h).symm⟩
 ·rename_i h0
  split at h
  ·rename_i h1
   exact .inr (.inl ⟨h0,h1,(Option.some.inj h).symm⟩)
  ·rename_i h1
   obtain⟨x,hx,h⟩:=fc h
   refine .inr (.inr ⟨h0,h1,x,hx,?_⟩)
   split at h
   ·rename_i hm
    obtain⟨d,hd,h⟩:=eD h
    exact .inr ⟨hm,d,hd,h.symm⟩
   ·rename_i hm
    refine .inl ⟨?_,(Option.some.inj h).symm⟩
    cases hk:may r c with
    | false=>rfl
    | true=>exact absurd hk hm
theorem up_le (hB:1<=B) {z x:E} {y:E} (h:LE B z x):LE B z (if ltE B x y then y else x):=by
 split
 ·rename_i hl;exact gf hB h (lt_le hl)
 ·exact h
theorem les_le (B:Int) (x:E) (c:Cb):LE B (les B x c) (whl c.1):=by
 unfold les
 split
 ·rename_i h;exact lt_le h
 ·exact ky B _
theorem dblG_facts (hB:1<=B) {c:Cb} {D:E} {a:Int} (h:dblG B r R own other c=some (D,a)):LE B D (whl c.1)/\(∃x,R own other (2*c.1,2)=some x/\LE B D x)/\
  ((D=whl c.1/\a=2)\/(ltE B D (whl c.1)=true/\((a=1/\R own other (2*c.1,2)=some D)\/(a=3/\bvr r c=true/\R own other (4*c.1,2)=some D)\/(a=4/\rcn r c=true/\R own other (8*c.1,2)=some D)))):=by
 rw[kK]at h;obtain⟨x,hx,h⟩:=fc h;have hl:=les_le B x c
 have hlx:LE B (les B x c) x:=by
  unfold les
  split
  ·exact ky B _
  ·rename_i hn
   refine le_lt.2 ?_
   cases hk:ltE B x (whl c.1) with
   | false=>rfl
   | true=>exact absurd hk hn
 have base:some (les B x c,lesA B x c)=some (D,a)->LE B D (whl c.1)/\(∃x,R own other (2*c.1,2)=some x/\LE B D x)/\
   ((D=whl c.1/\a=2)\/(ltE B D (whl c.1)=true/\((a=1/\R own other (2*c.1,2)=some D)\/(a=3/\bvr r c=true/\R own other (4*c.1,2)=some D)\/(a=4/\rcn r c=true/\R own other (8*c.1,2)=some D)))):=by
  intro e
  injection e with e;injection e with e1 e2
  refine⟨by rw[<- e1];exact hl,⟨x,hx,by rw[<- e1];exact hlx⟩,?_⟩
  rcases les_cases B x c with⟨l1,l2,_,l4⟩|⟨l1,l2,_⟩
  ·exact .inr ⟨by rw[<- e1,l1];exact l4,.inl ⟨by rw[<- e2,l2],by rw[<- e1,l1];exact hx⟩⟩
  ·exact .inl ⟨by rw[<- e1,l1],by rw[<- e2,l2]⟩
 split at h
 ·rename_i hb
  obtain⟨y,hy,h⟩:=eD h
  split at h
  ·rename_i hlt
   injection h with e1 e2
   have hD:ltE B D (whl c.1)=true:=by
    rw[<- e1];have k:=le_lt.1 hl
    cases hk:ltE B y.1 (whl c.1) with
    | true=>rfl
    | false=>exact absurd (le_lt.1 (gf hB hl (le_lt.2 hk))) (by rw[hlt];decide)
   refine⟨lt_le hD,⟨x,hx,by rw[<- e1];exact gf hB (lt_le hlt) hlx⟩,.inr ⟨hD,?_⟩⟩
   unfold bevG at hy;obtain⟨u,hu,hy⟩:=fc hy
   split at hy
   ·rename_i hrc
    obtain⟨w,hw,hy⟩:=eD hy
    split at hy
    ·subst hy
     exact .inr (.inr ⟨by rw[<- e2];rfl,hrc,by rw[<- e1];exact hw⟩)
    ·subst hy
     exact .inr (.inl ⟨by rw[<- e2];rfl,hb,by rw[<- e1];exact hu⟩)
   ·injection hy with hy
    subst hy
    exact .inr (.inl ⟨by rw[<- e2];rfl,hb,by rw[<- e1];exact hu⟩)
  ·exact base (by rw[h])
 ·exact base h
end
theorem bd_le {B C:Int} {x:E}:Bd B C x↔LE B (whl (-C)) x/\LE B x (whl C):=by
 unfold Bd Ra.LE whl
 simp only[bK,Int.mul_one,Int.neg_mul]
theorem eqG_own {B:Int} (hB:1<=B) {r:Ru} {R:RF} {own other:List Int} {c:Cb} (hc:0<=c.1) (hR:∀e,R own other c=some e->Bd B c.1 e) {y:E} (h:eqG B r R own other c=some y):Bd B c.1 y:=by
 rcases eqG_cases h with⟨_,rfl⟩|⟨_,_,rfl⟩|⟨_,_,x,hx,⟨_,rfl⟩|⟨_,d,hd,rfl⟩⟩
 ·exact bd_whl (by omega) (by omega)
 ·exact bd_whl (by omega) (by omega)
 ·exact hR _ hx
 ·obtain⟨h1,h2⟩:=bd_le.1 (hR x hx)
  refine bd_le.2 ⟨up_le hB h1,?_⟩
  split
  ·exact (dblG_facts (D:=d.1) (a:=d.2) hB hd).1
  ·exact h2
theorem rolF_own {s:Nat} (hs1:1<=s) (hs6:s<=6) {r:Ru}:∀(f:Nat) {own other:List Int} {c:Cb},0<=c.1->∀e,rolF s r f own other c=some e->Bd (sq s) c.1 e
 | 0,own,other,c,_,e,h=>by cases h
 | f + 1, own, other, c, hc, e, h => by
   unfold rolF at h; obtain ⟨xs, hs, h⟩ := fc h
   refine bd_mean hs1 hs6 hc (allS_pr (fun ro x hx => ?_) hs) h
   obtain ⟨t, hb, rfl⟩ := eD hx
   refine bestS_pr (P := Bd (sq s) c.1) (bd_zero hc) (fun q y hy => ?_) hb
   obtain ⟨z, hq, rfl⟩ := eD hy; have hsw : (swp c).1 = c.1 := iF c
   have := eqG_own (sq_bd hs1 hs6).1 (c := swp c) (by omega) (fun e he => rolF_own hs1 hs6 f (by omega) e he) hq
   rw [hsw] at this
   exact bd_neg this
theorem rol_own {s:Nat} (hs1:1<=s) (hs6:s<=6) {r:Ru} {own other:List Int} {c:Cb} (hc:0<=c.1) {e:E} (h:rol s r own other c=some e):Bd (sq s) c.1 e:=rolF_own hs1 hs6 _ hc e h
theorem eqv_own {s:Nat} (hs1:1<=s) (hs6:s<=6) {r:Ru} {own other:List Int} {c:Cb} (hc:0<=c.1) {e:E} (h:eqv s r own other c=some e):Bd (sq s) c.1 e:=eqG_own (sq_bd hs1 hs6).1 hc (fun _ he=>rol_own hs1 hs6 hc he) h
end Go.Proofs.YtkaiilmgemaljaaGreat.Mo

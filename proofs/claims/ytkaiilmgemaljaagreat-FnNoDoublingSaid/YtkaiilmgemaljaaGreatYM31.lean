/- Part of one proof. There are no conditions. -/
import Derived.Test.YtkaiilmgemaljaaGreatYM6
import Derived.Test.YtkaiilmgemaljaaGreatYM2
import Derived.Test.YtkaiilmgemaljaaGreatYZq
import Derived.DeepKeys4
set_option linter.unusedVariables false
set_option linter.unusedSimpArgs false
namespace Go.Proofs.YtkaiilmgemaljaaGreat
open Go.RowKit Ps Ra Ex Go.Maps Mo
def mkV (a b:Int) (c:Cb):Value:=.agg #[.int .i64 a,.int .i64 b,.int .i64 c.1,.int .i64 c.2]
theorem laidOutM:laidOutB Tryz.prog=true:=by kernel_rfl
theorem keyM:Keyed Tryz.prog 208:=Keyed.of_law (deep_law_laid laidOutM (m:=3) (by omega) (of_decide_eq_true (by kernel_rfl)) (by kernel_rfl) (by kernel_rfl))
noncomputable def mkL (a b:Int) (c:Cb):Lit:=(keyOf Tryz.prog 208 (mkV a b c)).getD (.bool false)
theorem keyT:Tryz.prog.keyType 208=true:=by kernel_rfl
theorem cellsK:Tryz.prog.cellsOf 208=4:=by kernel_rfl
theorem cellsCb:Tryz.prog.cellsOf 55=2:=by kernel_rfl
theorem cells64:Tryz.prog.cellsOf 2=1:=by kernel_rfl
theorem kp {a b:Int} {c:Cb} (ha:0<=a) (ha2:a<=1000000) (hb:0<=b) (hb2:b<=1000000) (h1:0<=c.1) (h2:c.1<=1000000) (h3:0<=c.2) (h4:c.2<=1000000):keyOf Tryz.prog 208 (mkV a b c)=some (mkL a b c):=by
 have hs:∃l,keyOf Tryz.prog 208 (mkV a b c)=some l:=by
  have w1:(Lit.int .i64 a).wf=true:=WalkArith.wf_i64 (by omega)
  have w2:(Lit.int .i64 b).wf=true:=WalkArith.wf_i64 (by omega)
  have w3:(Lit.int .i64 c.1).wf=true:=WalkArith.wf_i64 (by omega)
  have w4:(Lit.int .i64 c.2).wf=true:=WalkArith.wf_i64 (by omega)
  have hf:(mkV a b c).formed Tryz.prog 208=true:=by
   simp[Value.formed,Tryz.underlying208,cellsK,mkV]
  obtain⟨d,hd⟩:∃d,Tryz.prog.types.size+1=d+3:=⟨Tryz.prog.types.size+1-3,by have:2<=Tryz.prog.types.size:=of_decide_eq_true (by kernel_rfl);omega⟩
  have hu:=Tryz.underlying208;have hu2:=Tryz.underlying55;have hu3:=Tryz.underlying2;unfold keyOf;rw[hu]
  simp only[keyT,hf,Bool.and_self,if_true]
  rw[hd]
  simp[Program.keyLits,hu,hu2,hu3,cellsK,cellsCb,cells64,mkV,Value.cells,w1,w2,w3,w4]
  split
  ·exact⟨_,rfl⟩
  ·rename_i hn
   exact absurd (by decide) hn
 obtain⟨l,hl⟩:=hs;unfold mkL
 rw[hl];rfl
theorem mkL_inj {a b a' b':Int} {c c':Cb} (ha:0<=a/\a<=1000000) (hb:0<=b/\b<=1000000) (hc:(0<=c.1/\c.1<=1000000)/\0<=c.2/\c.2<=1000000) (ha':0<=a'/\a'<=1000000) (hb':0<=b'/\b'<=1000000) (hc':(0<=c'.1/\c'.1<=1000000)/\0<=c'.2/\c'.2<=1000000) (h:mkL a b c=mkL a' b' c'):a=a'/\b=b'/\c=c':=by
 have h1:=kp (c:=c) ha.1 ha.2 hb.1 hb.2 hc.1.1 hc.1.2 hc.2.1 hc.2.2;have h2:=kp (c:=c') ha'.1 ha'.2 hb'.1 hb'.2 hc'.1.1 hc'.1.2 hc'.2.1 hc'.2.2;rw[<- h]at h2;have e:=keyM.inj h1 h2;unfold mkV at e
 simp only[Value.agg.injEq,Array.mk.injEq,List.cons.injEq,Value.int.injEq,true_and,and_true]at e
 exact⟨e.1,e.2.1,Prod.ext e.2.2.1 e.2.2.2⟩
noncomputable def keysM (N:Nat):List Lit:=(List.range N).flatMap fun a=>(List.range N).flatMap fun b=>(List.range 11).flatMap fun k=>(List.range 3).map fun o=>mkL (a:Nat) (b:Nat) (two k,(o:Nat))
theorem mem_keysM {N a b:Nat} {K:Nat} {c:Cb} (ha:a<N) (hb:b<N) (hK:K<=10) (hc:CbOk K c):mkL (a:Nat) (b:Nat) c∈keysM N:=by
 obtain⟨k,h1,h2,h3⟩:=hc;obtain⟨v,o⟩:=c
 simp only at h2 h3
 unfold keysM
 refine List.mem_flatMap.2 ⟨a,List.mem_range.2 ha,List.mem_flatMap.2 ⟨b,List.mem_range.2 hb,List.mem_flatMap.2 ⟨k,List.mem_range.2 (by omega),List.mem_map.2 ⟨o.toNat,List.mem_range.2 (by omega),?_⟩⟩⟩⟩
 rw[h2,show ((o.toNat:Nat):Int)=o by omega]
theorem jg {α β:Type} (l:List α) (f:α->List β) (m:Nat) (h:∀a∈l,(f a).length=m):(l.flatMap f).length=l.length*m:=by
 induction l with
 | nil=>simp
 | cons a l ih =>
   rw [List.flatMap_cons, List.length_append, h a (by simp), ih fun x hx => h x (by simp [hx]), List.length_cons, Nat.add_mul]
   omega
theorem keysM_len {N:Nat} (h:N<=141):(keysM N).length<maxLen:=by
 have e:(keysM N).length=N*(N*33):=by
  unfold keysM
  rw[jg _ _ (N*33) fun a _=>by
   rw[jg _ _ 33 fun b _=>by
    rw[jg _ _ 3 fun k _=>by simp];simp,List.length_range],List.length_range]
 rw[e];have h1:N*33<=141*33:=Nat.mul_le_mul_right _ h;have h2:N*(N*33)<=141*(141*33):=Nat.mul_le_mul h h1;unfold maxLen
 omega
structure MT where
 t:RT
 bm:Nat
 m1:Nat
 m2:Nat
 K:Nat
 bv:Bool
 jc:Bool
def MT.ru (m:MT):Ru:=⟨two m.K,m.bv⟩
def MT.S (m:MT):Nat->Prop:=fun k=>m.t.S k\/k=m.m1\/k=m.m2
def MT.cells (m:MT):List Value:=[.pointer (some ⟨m.t.bt,0,none⟩),.int .i64 (two m.K),.bool m.bv,.bool m.jc,.map (some m.m1),.map (some m.m2)]
structure MT.Ok (m:MT):Prop where
 t:m.t.Ok
 k:m.K<=10
 n:m.t.N<=141
noncomputable def MT.key (m:MT) (q r:List Int) (c:Cb):Lit:=mkL (num m.t.c q:Nat) (num m.t.c r:Nat) c
theorem Mo.CbOk.v1 {K:Nat} {c:Cb} (h:CbOk K c) (hK:K<=10):1<=c.1/\c.1<=1024/\0<=c.2/\c.2<=2:=by
 have:=h.v0;have:=(gV hK).2
 omega
theorem MT.num_le {m:MT} (hm:m.Ok) {q:List Int} (hq:PosP m.t.h m.t.c q):(0:Int)<=(num m.t.c q:Nat)/\((num m.t.c q:Nat):Int)<=1000000:=by
 have:=bL hq;have:=hm.n;unfold RT.N at this
 omega
theorem MT.key_inj {m:MT} (hm:m.Ok) {q r q' r':List Int} {c c':Cb} (hq:PosP m.t.h m.t.c q) (hr:PosP m.t.h m.t.c r) (hc:CbOk m.K c) (hq':PosP m.t.h m.t.c q') (hr':PosP m.t.h m.t.c r') (hc':CbOk m.K c') (h:m.key q r c=m.key q' r' c'):q=q'/\r=r'/\c=c':=by
 have b1:=hc.v1 hm.k;have b2:=hc'.v1 hm.k
 obtain⟨h1,h2,h3⟩:=mkL_inj (m.num_le hm hq) (m.num_le hm hr) (by omega) (m.num_le hm hq') (m.num_le hm hr') (by omega) h
 exact⟨d8 hq hq' (by omega),d8 hr hr' (by omega),h3⟩
theorem MT.keyOf_ok {m:MT} (hm:m.Ok) {q r:List Int} {c:Cb} (hq:PosP m.t.h m.t.c q) (hr:PosP m.t.h m.t.c r) (hc:CbOk m.K c):Go.keyOf Tryz.prog 208 (mkV (num m.t.c q:Nat) (num m.t.c r:Nat) c)=some (m.key q r c):=by
 have b1:=hc.v1 hm.k
 exact kp (m.num_le hm hq).1 (m.num_le hm hq).2 (m.num_le hm hr).1 (m.num_le hm hr).2 (by omega) (by omega) (by omega) (by omega)
def MonM (m:MT) (w:World) (g1 g2:Lit->Option Value):Prop:=
 MapV Tryz.prog 208 w m.m1 (keysM m.t.N) g1/\MapV Tryz.prog 208 w m.m2 (keysM m.t.N) g2/\
 (∀q r c,PosP m.t.h m.t.c q->PosP m.t.h m.t.c r->CbOk m.K c->∀u,g1 (m.key q r c)=some u->u=exV (rol m.t.s m.ru q r c)/\g2 (m.key q r c)=some (.bool (rol m.t.s m.ru q r c).isNone))
structure MonI (m:MT) (T:Nat->Prop) (w:World):Prop where
 ra:RaceI m.t T w
 tb:∀j v,m.cells[j]? = some v->w.cell? ⟨m.bm,j,none⟩=some v
 nt:¬T m.bm
 s1:T m.m1
 s2:T m.m2
 d:m.m1≠m.m2
 n1:¬m.t.S m.m1
 n2:¬m.t.S m.m2
 maps:∃g1 g2,MonM m w g1 g2
section
variable {m:MT} {T T' O:Nat->Prop} {w w':World} {g1 g2:Lit->Option Value}
theorem MonM.frm (h:MonM m w g1 g2) (hf:Frm O w w') (h1:¬O m.m1) (h2:¬O m.m2):MonM m w' g1 g2:=⟨h.1.frm hf h1,h.2.1.frm hf h2,h.2.2⟩
theorem MonI.sub (h:MonI m T w):∀k,m.S k->T k:=by
 rintro k (hk|rfl|rfl)
 ·exact h.ra.sub k hk
 ·exact h.s1
 ·exact h.s2
theorem MonI.own (h:MonI m T w) (hf:Frm O w w') (hO:∀k,O k->T k) (hn:∀k,O k->¬m.S k):MonI m T w':=
 let ⟨g1,g2,hm⟩:=h.maps
 ⟨h.ra.own hf hO fun k hk hs=>hn k hk (.inl hs),fun j v hv=>hf.cell' (h.tb j v hv) fun ho=>h.nt (hO _ ho),h.nt,h.s1,h.s2,h.d,h.n1,h.n2,g1,g2,hm.frm hf (fun ho=>hn _ ho (.inr (.inl rfl))) fun ho=>hn _ ho (.inr (.inr rfl))⟩
theorem MonI.below (h:MonI m T w) (hb:Below w.heap.size w w'):MonI m T w':=h.own (Frm.of_below hb) (fun _ h=>h.elim) (fun _ h=>h.elim)
theorem MonI.alloc (h:MonI m T w) (o:Obj):MonI m T (w.alloc o):=h.below ((Below.refl _ _).alloc (Nat.le_refl _) o)
theorem MonI.drew (h:MonI m T w):MonI m T w.drew:=h.below (drw (Below.refl _ _))
theorem MonI.ltB (h:MonI m T w):m.bm<w.heap.size:=World.block_lt_of_cell? w _ (h.tb 0 _ rfl)
theorem MonI.ltS (h:MonI m T w):∀k,m.S k->k<w.heap.size:=by
 obtain⟨_,_,h1,h2,_⟩:=h.maps
 rintro k (hk|rfl|rfl)
 ·exact h.ra.ltS k hk
 ·exact h1.lt
 ·exact h2.lt
theorem MonI.set (h:MonI m T w) (hS:∀k,T' k->T k\/w.heap.size<=k) (hs:∀k,m.S k->T' k):MonI m T' w:=
 ⟨h.ra.set hS fun k hk=>hs k (.inl hk),h.tb,fun hb=>by rcases hS _ hb with h'|h';exact h.nt h';have:=h.ltB;omega,hs _ (.inr (.inl rfl)),hs _ (.inr (.inr rfl)),h.d,h.n1,h.n2,h.maps⟩
theorem MonI.less (h:MonI m T w) (hS:∀k,T' k->T k) (hs:∀k,m.S k->T' k):MonI m T' w:=h.set (fun k hk=>.inl (hS k hk)) hs
theorem MonI.stored (h:MonI m T w) {b i:Nat} (v:Value) (hT:T b) (hS:¬m.S b):MonI m T (w.setCell ⟨b,i,none⟩ v):=
 h.own (Frm.set w b i v) (fun k hk=>by rw[hk];exact hT) (fun k hk=>by rw[hk];exact hS)
theorem MonI.wide (h:MonI m T w) (n:Nat):MonI m (ownT T w n) w:=h.set (fun k hk=>hk.elim .inl fun h=>.inr h.1) (fun k hk=>.inl (h.sub k hk))
theorem MonI.race (h:MonI m T w) (hI:RaceI m.t T w') (hf:Frm m.t.S w w'):MonI m T w':=
 let ⟨g1,g2,hm⟩:=h.maps
 ⟨hI,fun j v hv=>hf.cell' (h.tb j v hv) fun ho=>h.nt (h.ra.sub _ ho),h.nt,h.s1,h.s2,h.d,h.n1,h.n2,g1,g2,hm.frm hf h.n1 h.n2⟩
theorem MonI.grew {w1:World} {v v':Value} (h:MonI m (wth T v) w) (hg:w.grownBy w1 v.ownBlock) (hat:v'.ownBlock=v.ownBlock\/v'.ownBlock=some w.heap.size) (hn:∀k,some k=v.ownBlock->¬m.S k):MonI m (wth T v') w1:=by
 have h1:=h.set (T':=fun k=>wth T v k\/wth T v' k) (fun k hk=>hk.elim .inl (jY hat k)) (fun k hk=>.inl (h.sub k hk))
 have h2:=h1.own (Frm.of_grown hg) (fun k hk=>.inl (.inr hk.symm)) hn
 exact h2.less (fun k hk=>.inr hk) (fun k hk=>by
  have h3:=h.sub k hk
  rcases h3 with h3|h3
  ·exact .inl h3
  ·exact absurd hk (hn k h3.symm))
end
theorem frm_M {m:MT} {w w':World} {b:Nat} (hg:w.grownBy w' (some b)) (hb:m.S b):Frm m.S w w':=(Frm.of_grown hg).mono fun k hk=>by injection hk with hk;rw[hk];exact hb
theorem frm_R {m:MT} {w w':World} (hf:Frm m.t.S w w'):Frm m.S w w':=hf.mono fun k hk=>.inl hk
def RetMo (m:MT) (T:Nat->Prop) (w:World) (o:Option E) (e:Ending) (w':World):Prop:=e = .returned (.tuple #[exV o,.bool o.isSome])/\MonI m T w'/\Frm m.S w w'
theorem RetMo.mkY {m:MT} {T:Nat->Prop} {w w':World} {o:Option E} {n:Int} {d:Nat} (ho:o=some ⟨n,d⟩) (h1:MonI m T w') (h2:Frm m.S w w'):RetMo m T w o (.returned (.tuple #[.agg #[.int .i64 n,.int .i64 (d:Int)],.bool true])) w':=by subst ho;exact⟨rfl,h1,h2⟩
theorem RetMo.mkN {m:MT} {T:Nat->Prop} {w w':World} {o:Option E} (ho:o=none) (h1:MonI m T w') (h2:Frm m.S w w'):RetMo m T w o (.returned (.tuple #[.agg #[.int .i64 0,.int .i64 0],.bool false])) w':=by subst ho;exact⟨rfl,h1,h2⟩
def RetBv (m:MT) (T:Nat->Prop) (w:World) (o:Option (E×Bool)) (e:Ending) (w':World):Prop:=MonI m T w'/\Frm m.S w w'/\match o with
 | none=>∃a:Int,e = .returned (.tuple #[.agg #[.int .i64 0,.int .i64 0],.int .i64 a,.bool false])
 | some (x,b)=>e = .returned (.tuple #[.agg #[.int .i64 x.num,.int .i64 (x.depth:Int)],.int .i64 (if b then 4 else 3),.bool true])
def RetMB (m:MT) (T:Nat->Prop) (w:World) (l:List (List Int)) (o:Option (Nat×Nat×E)) (e:Ending) (w':World):Prop:=
 MonI m T w'/\Frm m.S w w'/\match o with
  | none=>e = .returned (.tuple #[.slice none 0 0,.agg #[.int .i64 0,.int .i64 0],.bool false])
  | some (k,a,x)=>∃v,e = .returned (.tuple #[v,.agg #[.int .i64 x.num,.int .i64 (x.depth:Int)],.bool true])/\BestV T w' m.t.h k a l v
def MonC (m:MT) (f:FuncId) (own other:List Int) (c:Cb) (R:(Nat->Prop)->World->Ending->World->Prop):Prop:=∀(T:Nat->Prop) (A B:Option Addr) (ca cb:Nat) (w:World),(∀k,w.heap.size<=k->¬T k)->MonI m T w->SQ T w A m.t.h own->m.t.h<=ca->SQ T w B m.t.h other->m.t.h<=cb->
 Calls Tryz.prog f #[.pointer (some ⟨m.bm,0,none⟩),.slice A m.t.h ca,.slice B m.t.h cb,.agg #[.int .i64 c.1,.int .i64 c.2]] w (R T w)
def RolC (m:MT) (own other:List Int) (c:Cb):Prop:=MonC m 110 own other c fun T w=>RetMo m T w (rol m.t.s m.ru own other c)
def EqvC (m:MT) (own other:List Int) (c:Cb):Prop:=MonC m 104 own other c fun T w=>RetMo m T w (eqv m.t.s m.ru own other c)
noncomputable def dbl (s:Nat) (r:Ru) (own other:List Int) (c:Cb):Option (E×Int):=dblG (sq s) r (rol s r) own other c
noncomputable def bev (s:Nat) (r:Ru) (own other:List Int) (c:Cb):Option (E×Bool):=bevG (sq s) r (rol s r) own other c
def DblC (m:MT) (own other:List Int) (c:Cb):Prop:=MonC m 118 own other c fun T w=>RetMo m T w ((dbl m.t.s m.ru own other c).map fun y=>y.1)
def BevC (m:MT) (own other:List Int) (c:Cb):Prop:=MonC m 198 own other c fun T w=>RetBv m T w (bev m.t.s m.ru own other c)
open Go.RowKit Mo Ps Ra Ex
theorem ltE_irr (B:Int) (z:E):ltE B z z=false:=by unfold ltE;simp
theorem les_cases (B:Int) (x:E) (c:Cb):(les B x c=x/\lesA B x c=1/\x≠whl c.1/\ltE B x (whl c.1)=true)\/(les B x c=whl c.1/\lesA B x c=2/\ltE B x (whl c.1)=false):=by
 cases h:ltE B x (whl c.1) with
 | true=>exact .inl ⟨if_pos h,if_pos h,(fun e=>by rw[e,ltE_irr]at h;cases h),rfl⟩
 | false=>exact .inr ⟨if_neg (by rw[h];decide),if_neg (by rw[h];decide),rfl⟩
end Go.Proofs.YtkaiilmgemaljaaGreat

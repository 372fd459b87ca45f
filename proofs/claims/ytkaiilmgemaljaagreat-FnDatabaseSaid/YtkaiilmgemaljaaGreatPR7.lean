/- Contract of the program's database of win chances. There are no conditions beyond those that each states. -/
import Derived.Test.YtkaiilmgemaljaaGreatPR6
import Derived.Test.YtkaiilmgemaljaaGreatPZn
import Derived.Test.YtkaiilmgemaljaaGreatPZt
set_option linter.unusedVariables false
set_option linter.unusedSimpArgs false
namespace Go.Proofs.YtkaiilmgemaljaaGreat
open Go.RowKit Ps Ra Ex Go.Maps Go.WideShapes
noncomputable def winsF (h c s:Nat) (i:Nat):Option E:=if i=0 then some zeroE' else win s (atP h c (i / wys h c)) (atP h c (i % wys h c))
/-! ### a table's contents and blocks that it does not hold -/
theorem MapV.uniq {P:Program} {k:TypeId} {w:World} {b:Nat} {U:List Lit} {f f':Lit→Option Value} (h:MapV P k w b U f) (h':MapV P k w b U f') {l:Lit} (hl:WideAt.IsKeyLit l):f l=f' l:=by
 obtain⟨D,⟨es,c,hb,_,_,hD⟩,hf,_⟩:=h;obtain⟨D',⟨es',c',hb',_,_,hD'⟩,hf',_⟩:=h';rw[hb]at hb';injection hb' with hb';injection hb' with h1 h2;subst h1;have hDD:D=D':=hD.trans hD'.symm;subst hDD;obtain⟨a1,a2⟩:=hf l hl;obtain⟨b1,b2⟩:=hf' l hl;have a3:=a2 undef;have b3:=b2 undef;rw[a3]at b3;injection b3 with b3;rw[a1]at b1
 cases hx:f l<;>cases hy:f' l<;>rw[hx,hy]at b1 b3<;>simp at b1 b3 ⊢
 exact b3
section
variable {T M:Nat→Prop} {w:World} {A:Option Addr} {n z:Nat}
theorem SLZ.un {cs:List Value} (h0:SLZ z T w A n cs) (h:∀x,M x→SLZ z (fun k=>T k∨k=x) w A n cs):SLZ z (fun k=>T k∨M k) w A n cs:=by
 refine⟨h0.1,fun hn=>?_⟩
 obtain⟨b,off,hA,hl,hs,hc⟩:=h0.2 hn
 refine⟨b,off,hA,hl,?_,hc⟩
 rintro (h1|h1)
 ·exact hs h1
 ·obtain⟨b',off',hA',_,hs',_⟩:=(h b h1).2 hn
  rw[hA]at hA'
  cases hA'
  exact hs' (.inr rfl)
theorem SLZ.uniq {T':Nat→Prop} {cs cs':List Value} (h:SLZ z T w A n cs) (h':SLZ z T' w A n cs'):cs=cs':=by
 refine List.ext_getElem? fun i=>?_
 by_cases hi:i<n*z
 ·have hn:0<n:=by
   rcases Nat.eq_zero_or_pos n with rfl|h2
   ·simp at hi
   ·exact h2
  obtain⟨b,off,hA,_,_,hc⟩:=h.2 hn;obtain⟨b',off',hA',_,_,hc'⟩:=h'.2 hn;rw[hA]at hA'
  cases hA'
  have h1:=hc i hi;rw[hc' i hi]at h1;injection h1 with h1
  simp only[List.getD_eq_getElem?_getD]at h1
  have e1:=h.1;have e2:=h'.1
  rw[List.getElem?_eq_getElem (by omega),List.getElem?_eq_getElem (by omega)]at h1 ⊢
  simp at h1
  rw[h1]
 ·rw[List.getElem?_eq_none (by have:=h.1;omega),List.getElem?_eq_none (by have:=h'.1;omega)]
theorem SQ.un {xs:List Int} (h0:SQ T w A n xs) (h:∀x,M x→SQ (fun k=>T k∨k=x) w A n xs):SQ (fun k=>T k∨M k) w A n xs:=
 ⟨h0.1,fun hn b off s hA hb=>hb.elim (h0.2 hn b off s hA) fun h1=>(h b h1).2 hn b off s hA (.inr rfl)⟩
theorem PV.un {u:Value} {p:List Int} (h0:PV T w u p) (h:∀x,M x→PV (fun k=>T k∨k=x) w u p):PV (fun k=>T k∨M k) w u p:=by
 obtain⟨A,n,c,rfl,hq,hc⟩:=h0
 refine⟨A,n,c,rfl,hq.un fun x hx=>?_,hc⟩
 obtain⟨A',n',c',hv,hq',_⟩:=h x hx
 cases hv
 exact hq'
theorem PL.un {ps:List (List Int)} (h0:PL T w A n ps) (h:∀x,M x→PL (fun k=>T k∨k=x) w A n ps):PL (fun k=>T k∨M k) w A n ps:=by
 obtain⟨cs,h1,h2,h3⟩:=h0
 refine⟨cs,h1.un fun x hx=>?_,h2,fun i hi=>(h3 i hi).un fun x hx=>?_⟩<;>obtain⟨cs',g1,g2⟩:=h x hx<;>rw[h1.uniq g1]
 ·exact g1
 ·exact g2.2 i (by rw[← h1.uniq g1];exact hi)
theorem RS.un {ls:List (List (List Int))} (h0:RS T w A n ls) (h:∀x,M x→RS (fun k=>T k∨k=x) w A n ls):RS (fun k=>T k∨M k) w A n ls:=by
 refine⟨h0.1,fun hn=>?_⟩
 obtain⟨b,off,hA,hl,hs,hc⟩:=h0.2 hn
 refine⟨b,off,hA,hl,?_,fun k hk=>?_⟩
 ·rintro (h1|h1)
  ·exact hs h1
  ·obtain⟨b',off',hA',_,hs',_⟩:=(h b h1).2 hn
   rw[hA]at hA'
   cases hA'
   exact hs' (.inr rfl)
 ·obtain⟨B,m,c,g1,g2,g3⟩:=hc k hk
  refine⟨B,m,c,g1,g2.un fun x hx=>?_,g3⟩
  obtain⟨b',off',hA',_,_,hc'⟩:=(h x hx).2 hn;rw[hA]at hA'
  cases hA'
  obtain⟨B',m',c',k1,k2,_⟩:=hc' k hk;rw[g1]at k1
  cases k1
  exact k2
theorem RSV.un {u:Value} {ls:List (List (List Int))} (h0:RSV T w u ls) (h:∀x,M x→RSV (fun k=>T k∨k=x) w u ls):RSV (fun k=>T k∨M k) w u ls:=by
 obtain⟨A,n,c,rfl,hq,hc⟩:=h0
 refine⟨A,n,c,rfl,hq.un fun x hx=>?_,hc⟩
 obtain⟨A',n',c',hv,hq',_⟩:=h x hx
 cases hv
 exact hq'
theorem RaceI.un {t:RT} (h0:RaceI t T w) (h:∀x,M x→RaceI t (fun k=>T k∨k=x) w):RaceI t (fun k=>T k∨M k) w:=by
 obtain⟨f1,f2,f3,m1,m2,m3,m4,m5⟩:=h0.maps
 refine⟨h0.tb,?_,⟨h0.rl.1,h0.rl.2.un fun x hx=>(h x hx).rl.2⟩,fun k hk=>.inl (h0.sub k hk),h0.d12,h0.d13,h0.d23,f1,f2,f3,m1,m2,m3,fun q hq u hu=>(m4 q hq u hu).un fun x hx=>?_,m5⟩
 ·rintro (h1|h1)
  ·exact h0.nt h1
  ·exact (h _ h1).nt (.inr rfl)
 ·obtain⟨g1,g2,g3,k1,k2,k3,k4,_⟩:=(h x hx).maps
  exact k4 q hq u (by rw[← m1.uniq k1 (by trivial)];exact hu)
end
def TagE (w:World) (k:Nat):Prop:=∃cs fz,w.heap[k]? = some (Obj.cells cs 35 fz)
def RelW (t:RT) (T:Nat→Prop) (W W':World):Prop:=Frm t.S W W'∧∀x,TagE W x→RaceI t (fun k=>T k∨k=x) W→TagE W' x∧RaceI t (fun k=>T k∨k=x) W'
theorem RelW.refl (t:RT) (T:Nat→Prop) (W:World):RelW t T W W:=⟨Frm.refl _ _,fun _ h1 h2=>⟨h1,h2⟩⟩
theorem RelW.trans {t:RT} {T:Nat→Prop} {W W' W'':World} (h:RelW t T W W') (h':RelW t T W' W''):RelW t T W W'':=⟨h.1.trans h'.1,fun x h1 h2=>h'.2 x (h.2 x h1 h2).1 (h.2 x h1 h2).2⟩
theorem TagE.lt {W:World} {x:Nat} (h:TagE W x):x<W.heap.size:=by
 obtain⟨cs,fz,h⟩:=h
 exact (Array.getElem?_eq_some_iff.1 h).1
theorem RaceI.noS {t:RT} {T:Nat→Prop} {W:World} {x:Nat} (h:RaceI t T W) (hx:TagE W x):¬t.S x:=by
 obtain⟨cs,fz,hx⟩:=hx;obtain⟨f1,f2,f3,⟨_,⟨_,_,m1,_⟩,_⟩,⟨_,⟨_,_,m2,_⟩,_⟩,⟨_,⟨_,_,m3,_⟩,_⟩,_⟩:=h.maps
 rintro (rfl|rfl|rfl)
 ·rw[m1]at hx;cases hx
 ·rw[m2]at hx;cases hx
 ·rw[m3]at hx;cases hx
theorem TagE.frm {S:Nat→Prop} {W W':World} {x:Nat} (h:TagE W x) (hf:Frm S W W') (hn:¬S x):TagE W' x:=by
 obtain⟨cs,fz,h'⟩:=h
 exact⟨cs,fz,(hf.block x (TagE.lt ⟨cs,fz,h'⟩) hn).trans h'⟩
theorem RelW.below {t:RT} {T:Nat→Prop} {W W':World} (hb:Below W.heap.size W W'):RelW t T W W':=⟨Frm.of_below' _ hb,fun x h1 h2=>⟨h1.frm (Frm.of_below hb) id,h2.below hb⟩⟩
theorem two_cells7 {W:World} {g:Nat} {a b:Value} {e:TypeId} (h:W.heap[g]? = some (.cells #[a,b] e)):W.cell? ⟨g,0,none⟩=some a∧W.cell? ⟨g,1,none⟩=some b∧W.frozen? ⟨g,0,none⟩=false∧W.frozen? ⟨g,1,none⟩=false:=by
 simp[World.cell?,World.frozen?,h]
theorem ownS_base {W:World} {b b':Nat} {e:TypeId} {v:Value} {xs:List Int} (h:OwnS W b e v xs) (hb:b'≤b):OwnS W b' e v xs:=by
 refine⟨h.1,h.2.imp id ?_⟩
 rintro⟨g,cap,cur,h1,h2,h3⟩
 exact⟨g,cap,cur,h1,Nat.le_trans hb h2,h3⟩
theorem ownS_sq {T:Nat→Prop} {W:World} {base n:Nat} {A:Option Addr} {c:Nat} {xs:List Int} (h:OwnS W base 2 (.slice A n c) xs) (hl:xs.length=n) (hT:∀x,T x→x<base∨TagE W x):SQ T W A n xs∧n≤c:=by
 subst hl
 refine⟨⟨(h.sl rfl).1,fun _ b off s hA hb=>?_⟩,(h.sl rfl).2⟩
 have hlt:=(World.ownsRow.lt h b (by rw[hA];rfl)).1
 rcases hT b hb with h1|⟨cs,fz,h1⟩
 ·omega
 ·rcases h.2 with⟨h2,_⟩|⟨g,cap,cur,h2,_,h3,_⟩
  ·injection h2 with h2
   rw[h2]at hA
   cases hA
  ·injection h2 with h2
   rw[h2]at hA
   cases hA
   rw[h3]at h1
   cases h1
def w6d (i:Nat):Nat:=if i≤17 then 21+i else if i=18 then 20 else if i≤20 then 20+i else 9
theorem w6_ge (i:Nat):9≤w6d i:=by
 unfold w6d
 split
 ·omega
 ·split
  ·omega
  ·split<;>omega
def w6G (t:RT) (T:Nat→Prop) (wr:World) (k a b:Nat) (P Q:List Int) (R x0 x1:Value) (i:Nat) (v:Value) (W:World):Prop:=
 match i with
 | 0=>v = .pointer (some ⟨t.bt,0,none⟩)
 | 1=>v = .agg #[.int .i64 t.p,.int .i64 t.c,.int .i64 t.h,.int .i64 t.s]
 | 2=>v = .int .i64 (k:Int)
 | 3=>v = .pointer (some ⟨t.bt,0,none⟩)
 | 4=>v = .pointer (some ⟨t.bt,0,none⟩)
 | 5=>v = .pointer (some ⟨t.bt,4,none⟩)
 | 6=>v = .int .i64 (t.N:Int)
 | 7=>v = .int .i64 (a:Int)
 | 8=>∃A c,v = .slice A t.h c∧OwnS W wr.heap.size 2 (.slice A t.h c) P∧P.length=t.h
 | 9=>v = .agg #[.int .i64 t.p,.int .i64 t.c,.int .i64 t.h,.int .i64 t.s]
 | 10=>v = .int .i64 (k:Int)
 | 11=>v = .pointer (some ⟨t.bt,0,none⟩)
 | 12=>v = .pointer (some ⟨t.bt,0,none⟩)
 | 13=>v = .pointer (some ⟨t.bt,4,none⟩)
 | 14=>v = .int .i64 (t.N:Int)
 | 15=>v = .int .i64 (b:Int)
 | 16=>∃A c,v = .slice A t.h c∧OwnS W wr.heap.size 2 (.slice A t.h c) Q∧Q.length=t.h
 | 17=>v=R
 | 18=>v=R
 | 19=>v=x0
 | 20=>v=x1
 | _=>∃g,v = .pointer (some ⟨g,0,none⟩)∧wr.heap.size≤g∧W.heap[g]? = some (.cells #[.int .i64 0,.int .i64 0] 35)∧RaceI t (fun k=>T k∨k=g) W
theorem w6_stab {t:RT} {T:Nat→Prop} {wr:World} {k a b:Nat} {P Q:List Int} {R x0 x1:Value} (hlow:∀k,t.S k→k<wr.heap.size) (i:Nat) (v:Value) (W W':World) (hg:w6G t T wr k a b P Q R x0 x1 i v W) (hr:RelW t T W W'):w6G t T wr k a b P Q R x0 x1 i v W':=by
 unfold w6G at *
 split at hg
 all_goals first
  | exact hg
  | (obtain⟨A,c,h1,h2,h3⟩:=hg;exact⟨A,c,h1,hr.1.row h2 (fun j hj h=>by have:=hlow j h;have:=(World.ownsRow.lt h2 j hj).1;omega),h3⟩)
  | (obtain ⟨g, h1, h2, h3, h4⟩ := hg
     exact ⟨g, h1, h2, (hr.1.block g (TagE.lt ⟨_, _, h3⟩) (h4.noS ⟨_, _, h3⟩)).trans h3, (hr.2 g ⟨_, _, h3⟩ h4).2⟩)
set_option maxRecDepth 100000 in
set_option maxHeartbeats 8000000 in
theorem buildWins_any (p:Int) (c h s N:Nat) (w:World) (hv:isVar p c h s=true) (hN:wys h c≤50) (hNN:wys h c*wys h c=N):
  Calls Tryz.prog 148 #[.agg #[.int .i64 p,.int .i64 c,.int .i64 h,.int .i64 s],.int .i64 (N:Int)] w (RetDbs w (allN (winsF h c s) N)):=by
 obtain⟨i0,hi,iz0,iz1,iz2⟩:=info_parts Tryz.infoE;have hvv:=isVar_yes hv;have hpos:1≤wys h c:=wys_pos _ _
 have hN1:1≤N:=by rw[← hNN];exact Nat.mul_le_mul hpos hpos
 have hN5:N≤2500:=by rw[← hNN];exact Nat.mul_le_mul hN hN
 have HNN:=Lib.hid hNN
 have CN:=Lib.hid fun (W:World)=>newRace_any p c h s W hv (by omega)
 have CAT:=Lib.hid fun (k:Nat) (W:World) (hk:k<wys h c)=>(show Calls Tryz.prog 158 #[.agg #[.int .i64 p,.int .i64 c,.int .i64 h,.int .i64 s],.int .i64 (k:Int)] W (RetO W 2 (atP h c k)) from by have h1:=bearoffAt_any p s c h (atP h c k) W (atP_pos (by omega)).1 (by omega) (by omega) (by omega);rw[(atP_pos (by omega)).2]at h1;exact h1)
 have HPP:Hid (∀k,k<wys h c→PosP h c (atP h c k)):=fun k hk=>(atP_pos (by omega)).1
 have HF0:Hid (Cel (w.alloc (.cells #[.int .i64 p,.int .i64 c,.int .i64 h,.int .i64 s] 25)) w.heap.size [.int .i64 p,.int .i64 c,.int .i64 h,.int .i64 s]):=Cel.new w #[.int .i64 p,.int .i64 c,.int .i64 h,.int .i64 s] _;have HB0:Hid (Below w.heap.size w (w.alloc (.cells #[.int .i64 p,.int .i64 c,.int .i64 h,.int .i64 s] 25))):=(Below.refl _ _).alloc (Nat.le_refl _) _
 have HWF:Hid (∀k,0<k→winsF h c s k=win s (atP h c (k / wys h c)) (atP h c (k % wys h c))):=fun k hk=>by unfold winsF;rw[if_neg (by omega)]
 have HW0:Hid (allN (winsF h c s) 1=some [zeroE']):=by unfold Hid allN allN winsF;rw[if_pos rfl];rfl
 clear hv hNN hvv
 go_enter Tryz.func148,Tryz.ntmps148
 go_wp2_with (fail)
 generalize w.alloc (.cells #[.int .i64 p,.int .i64 c,.int .i64 h,.int .i64 s] 25)=W0 at *
 refine (CN.out _).mono ?_
 rintro e w1 ⟨t,rfl,rfl,rfl,rfl,rfl,hok,hI,hlow,hbt,hb⟩
 have HV:=Lib.hid (HF0.out.below hb);have HB:=Lib.hid (HB0.out.trans (hb.mono HB0.out.size));have HOK:=Lib.hid hok;have HI:=Lib.hid hI;have HSL:=Lib.hid hI.ltS
 have HSG:Hid (∀k,t.S k→w.heap.size<k):=fun k hk=>by have:=hlow k hk;have:=HF0.out.lt;omega
 have hbw:w.heap.size<t.bt:=by have:=HF0.out.lt;omega
 have HBT:Hid (t.bt<w1.heap.size):=hI.ltB;have HWN:Hid (wys t.h t.c=t.N):=rfl;clear hok hI hlow hbt hb HF0 HB0 CN;generalize wys t.h t.c=wy at *;have HWN':=HWN.out;subst HWN'
 go_wp2_with (at_make;refine wpList_make_full _ rfl _ _ 29 rfl w.heap.size 35 i0 (.agg #[.int .i64 0,.int .i64 0]) 2 Tryz.underlying29 hi iz0 iz1 _ _ _ _ N rfl rfl (by omega) (by omega) (by rw[iz2];omega) (by unfold maxLen;omega) (by have:=HB.out.size;simp;omega) ?_;intro w2 hown hgrow)
 have hb2:Below w1.heap.size w1 w2:=(Below.refl _ _).grown hgrow (by simp) (by simp)
 have HO2:Hid (OwnE w2 w.heap.size (.slice (some ⟨w1.heap.size,0,none⟩) N N) ([zeroE']++List.replicate (N-1) zeroE')):=by
  unfold Hid OwnE
  rw[show ([zeroE']++List.replicate (N-1) zeroE':List E)=List.replicate N zeroE' from by
   obtain⟨m,hm⟩:∃m,N=m+1:=⟨N-1,by omega⟩
   rw[hm,List.replicate_succ,Nat.add_sub_cancel];rfl]
  rw[List.length_replicate,← made_exC]
  exact hown
 have hg2:w1.heap.size<w2.heap.size:=(World.ownsRow.lt hown w1.heap.size rfl).2;have HV2:=Lib.hid (HV.out.below hb2);have HI2:=Lib.hid (HI.out.below hb2);have HB2:=Lib.hid (HB.out.trans (hb2.mono HB.out.size));obtain⟨g,hg⟩:∃g,g=w1.heap.size:=⟨_,rfl⟩;rw[← hg]at HO2 hg2 HSL HBT ⊢
 have HIT:Hid (RaceI t (fun k=>t.S k∨k=g) w2):=(HI.out.set (T':=fun k=>t.S k∨k=g) (fun k hk=>hk.imp id fun e=>by omega) (fun k hk=>.inl hk)).below hb2
 clear hown hgrow hb2 hg HV HI HB
 have hwg:w.heap.size<g:=by have:=HBT.out;omega
 obtain⟨T0,hT0⟩:∃T0,T0=fun k=>t.S k∨k=g:=⟨_,rfl⟩
 rw[← hT0]at HIT
 have HTS:Hid (∀k,t.S k→T0 k):=fun k hk=>by rw[hT0];exact .inl hk
 have HTG:Hid (T0 g):=by rw[hT0];exact .inr rfl
 have HTW:Hid (∀k,T0 k→w.heap.size<k):=fun k hk=>by rw[hT0]at hk;rcases hk with h|h;exact HSG.out k h;omega
 have HTL2:Hid (∀k,T0 k→k<w2.heap.size):=fun k hk=>by rw[hT0]at hk;rcases hk with h|h;have:=HSL.out k h;omega;omega
 clear hT0
 go_wp2_with (fail)
 go_loopw [8] (fun v8 wr=>∃k:Nat,1≤k∧k≤N∧v8 = .int .i64 k∧Hid (∃ts,allN (winsF t.h t.c t.s) k=some ts∧OwnE wr w.heap.size (.slice (some ⟨g,0,none⟩) N N) (ts++List.replicate (N-k) zeroE'))∧Hid (RaceI t T0 wr)∧Hid (Frm T0 w2 wr)) (fun v8 _=>N-(intOf v8).toNat)
 case atStart=>exact⟨1,by omega,by omega,rfl,⟨[zeroE'],HW0.out,HO2.out⟩,HIT.out,Frm.refl _ _⟩
 case round=>
  clear HO2 HI2 HIT;obtain⟨k,hk1,hk,rfl,hts,HI,HF⟩:=hrel;obtain⟨ts,hall,ho⟩:=hts.out;have HALL:=Lib.hid hall;have HO:=Lib.hid ho;have hzr:w2.heap.size≤wr.heap.size:=HF.out.size
  have HV:=Lib.hid (HV2.out.frm HF.out (fun h=>by have:=HTW.out _ h;omega))
  have HB:=Lib.hid (HB2.out.trans (HF.out.below HB2.out.size (fun j hj=>by have:=HTW.out _ hj;omega)))
  clear hall ho hts
  by_cases hlt:k<N
  ·have hki:(k:Int)<(N:Int):=by omega
   have HTL:=Lib.hid (allN_len HALL.out)
   have hN0:0<t.N:=by omega
   have hla:k / t.N<t.N:=Nat.div_lt_of_lt_mul (by rw[HNN.out];exact hlt)
   have hlb:k % t.N<t.N:=Nat.mod_lt _ hN0
   have HXF:=HWF.out k (by omega)
   have hcw:=win_all t HOK.out (HPP.out _ hla) (HPP.out _ hlb);unfold WinC at hcw
   have hnz:¬(t.N:Int)=0:=by omega
   have hqa:(k:Int) / (t.N:Int)=((k / t.N:Nat):Int):=(Int.natCast_ediv k t.N).symm;have HRE:Hid ((k:Int).tmod (t.N:Int)=((k % t.N:Nat):Int)):=rfl;generalize k / t.N=a at *
   have HQU:Hid (IntKind.i64.wrap ((k:Int) / (t.N:Int))=(a:Int)):=by unfold Hid;rw[hqa];exact IntWalk.i64_in _ (by omega)
   clear hqa;generalize k % t.N=b at *
   have HTL0:Hid (∀x,T0 x→x<wr.heap.size):=fun x hx=>by have:=HTL2.out x hx;omega
   have hlowr:Hid (∀x,t.S x→x<wr.heap.size):=fun x hx=>by have:=HSL.out x hx;omega
   have HWS:Hid (¬t.S w.heap.size):=fun h=>by have:=HSG.out _ h;omega
   rcases hxo:win t.s (atP t.h t.c a) (atP t.h t.c b) with _|⟨m,d⟩
   ·have HREN:Hid (allN (winsF t.h t.c t.s) N=none):=allN_stop hlt HALL.out (HXF.trans hxo)
    rw[hxo]at hcw;have CW:=Lib.hid hcw;clear hxo HXF hcw
    go_wp2_with (fail)
    refine wp_region_early 22 (fun i=>i == 20) w6d (RelW t T0) (RaceI t T0) (w6G t T0 wr k a b (atP t.h t.c a) (atP t.h t.c b) (.tuple #[.agg #[.int .i64 0,.int .i64 0],.bool false]) (.agg #[.int .i64 0,.int .i64 0]) (.bool false)) (by kernel_rfl) (by kernel_rfl) (fun _ _ _ _ _ h=>h) (fun _ _ _ h1 h2=>h1.trans h2) (fun _=>RelW.refl _ _ _) (w6_stab hlowr.out) (RelW.below (drw (Below.refl _ _))) HI.out.drew ?_ ?_ ?_
    ·intro i o hi hX ho a' W hW hIW hfar hdep
     have dep:∀j,j<22→Region.waitsFor .any _ i j=true→w6G t T0 wr k a b (atP t.h t.c a) (atP t.h t.c b) (.tuple #[.agg #[.int .i64 0,.int .i64 0],.bool false]) (.agg #[.int .i64 0,.int .i64 0]) (.bool false) j (a'.tmps.getD (w6d j) undef) W:=hdep
     have hi8:i=20:=by simpa using hX
     clear hfar;subst hi8
     simp at ho
     subst ho
     have d1:a'.tmps.getD 20 undef = .tuple #[.agg #[.int .i64 0,.int .i64 0],.bool false]:=dep 18 (by omega) (by kernel_rfl)
     exact⟨.bool false,fun W'=>by simp only[execOp,Act.eval,d1];go_simp,rfl⟩
    ·intro i o hi hX ho a' W hW hIW hfar hdep
     have e2:a'.tmps.getD 2 undef = .pointer (some ⟨w.heap.size,0,none⟩):=(hfar 2 (fun j _=>by have:=w6_ge j;omega)).trans rfl
     have e6:a'.tmps.getD 6 undef = .pointer (some ⟨t.bt,0,none⟩):=(hfar 6 (fun j _=>by have:=w6_ge j;omega)).trans rfl
     have e8:a'.tmps.getD 8 undef = .int .i64 (k:Int):=(hfar 8 (fun j _=>by have:=w6_ge j;omega)).trans rfl
     have dep:∀j,j<22→Region.waitsFor .any _ i j=true→w6G t T0 wr k a b (atP t.h t.c a) (atP t.h t.c b) (.tuple #[.agg #[.int .i64 0,.int .i64 0],.bool false]) (.agg #[.int .i64 0,.int .i64 0]) (.bool false) j (a'.tmps.getD (w6d j) undef) W:=hdep
     have hX2:i≠20:=by simpa using hX
     have hi8:i=0∨i=1∨i=2∨i=3∨i=4∨i=5∨i=6∨i=7∨i=8∨i=9∨i=10∨i=11∨i=12∨i=13∨i=14∨i=15∨i=16∨i=17∨i=18∨i=19∨i=21:=by omega
     clear hfar
     rcases hi8 with rfl|rfl|rfl|rfl|rfl|rfl|rfl|rfl|rfl|rfl|rfl|rfl|rfl|rfl|rfl|rfl|rfl|rfl|rfl|rfl|rfl
     all_goals
      simp at ho
      subst ho
     ·exact .inl ⟨.pointer (some ⟨t.bt,0,none⟩),W,by simp only[execOp,Act.eval,e6];go_simp,RelW.refl _ _ _,hIW,rfl⟩
     ·have q0:=hW.1.cell' (HV.out.cell 0 _ rfl) HWS.out
      have q1:=hW.1.cell' (HV.out.cell 1 _ rfl) HWS.out;have q2:=hW.1.cell' (HV.out.cell 2 _ rfl) HWS.out;have q3:=hW.1.cell' (HV.out.cell 3 _ rfl) HWS.out
      exact .inl ⟨.agg #[.int .i64 t.p,.int .i64 t.c,.int .i64 t.h,.int .i64 t.s],W,by simp only[execOp,Act.eval,e2];go_simp,RelW.refl _ _ _,hIW,rfl⟩
     ·exact .inl ⟨.int .i64 (k:Int),W,by simp only[execOp,Act.eval,e8];go_simp,RelW.refl _ _ _,hIW,rfl⟩
     ·exact .inl ⟨.pointer (some ⟨t.bt,0,none⟩),W,by simp only[execOp,Act.eval,e6];go_simp,RelW.refl _ _ _,hIW,rfl⟩
     ·have d1:a'.tmps.getD 24 undef = .pointer (some ⟨t.bt,0,none⟩):=dep 3 (by omega) (by kernel_rfl)
      exact .inl ⟨.pointer (some ⟨t.bt,0,none⟩),W,by simp only[execOp,Act.eval,d1];go_simp,RelW.refl _ _ _,hIW,rfl⟩
     ·have d1:a'.tmps.getD 25 undef = .pointer (some ⟨t.bt,0,none⟩):=dep 4 (by omega) (by kernel_rfl)
      exact .inl ⟨.pointer (some ⟨t.bt,4,none⟩),W,by simp only[execOp,Act.eval,d1];go_simp,RelW.refl _ _ _,hIW,rfl⟩
     ·have d1:a'.tmps.getD 26 undef = .pointer (some ⟨t.bt,4,none⟩):=dep 5 (by omega) (by kernel_rfl)
      have q4:=hIW.tb 4 _ rfl
      exact .inl ⟨.int .i64 (t.N:Int),W,by simp only[execOp,Act.eval,d1];go_simp,RelW.refl _ _ _,hIW,rfl⟩
     ·have d1:a'.tmps.getD 23 undef = .int .i64 (k:Int):=dep 2 (by omega) (by kernel_rfl)
      have d2:a'.tmps.getD 27 undef = .int .i64 (t.N:Int):=dep 6 (by omega) (by kernel_rfl)
      have hqu:=HQU.out
      exact .inl ⟨.int .i64 (a:Int),W,by simp only[execOp,Act.eval,d1,d2];go_simp;omega,RelW.refl _ _ _,hIW,rfl⟩
     ·have d1:a'.tmps.getD 22 undef = .agg #[.int .i64 t.p,.int .i64 t.c,.int .i64 t.h,.int .i64 t.s]:=dep 1 (by omega) (by kernel_rfl)
      have d2:a'.tmps.getD 28 undef = .int .i64 (a:Int):=dep 7 (by omega) (by kernel_rfl)
      refine .inr ⟨158,#[.agg #[.int .i64 t.p,.int .i64 t.c,.int .i64 t.h,.int .i64 t.s],.int .i64 (a:Int)],by simp only[execOp,Act.eval,d1,d2];go_simp,?_⟩
      refine (CAT.out a W hla).mono ?_
      rintro e W' ⟨A,ca,rfl,hoa,hba⟩
      have hln:=(HPP.out a hla).1;rw[hln]at hoa ⊢
      exact⟨_,rfl,RelW.below hba,hIW.below hba,A,ca,rfl,ownS_base hoa (by have:=hW.1.size;omega),hln⟩
     ·have q0:=hW.1.cell' (HV.out.cell 0 _ rfl) HWS.out
      have q1:=hW.1.cell' (HV.out.cell 1 _ rfl) HWS.out;have q2:=hW.1.cell' (HV.out.cell 2 _ rfl) HWS.out;have q3:=hW.1.cell' (HV.out.cell 3 _ rfl) HWS.out
      exact .inl ⟨.agg #[.int .i64 t.p,.int .i64 t.c,.int .i64 t.h,.int .i64 t.s],W,by simp only[execOp,Act.eval,e2];go_simp,RelW.refl _ _ _,hIW,rfl⟩
     ·exact .inl ⟨.int .i64 (k:Int),W,by simp only[execOp,Act.eval,e8];go_simp,RelW.refl _ _ _,hIW,rfl⟩
     ·exact .inl ⟨.pointer (some ⟨t.bt,0,none⟩),W,by simp only[execOp,Act.eval,e6];go_simp,RelW.refl _ _ _,hIW,rfl⟩
     ·have d1:a'.tmps.getD 32 undef = .pointer (some ⟨t.bt,0,none⟩):=dep 11 (by omega) (by kernel_rfl)
      exact .inl ⟨.pointer (some ⟨t.bt,0,none⟩),W,by simp only[execOp,Act.eval,d1];go_simp,RelW.refl _ _ _,hIW,rfl⟩
     ·have d1:a'.tmps.getD 33 undef = .pointer (some ⟨t.bt,0,none⟩):=dep 12 (by omega) (by kernel_rfl)
      exact .inl ⟨.pointer (some ⟨t.bt,4,none⟩),W,by simp only[execOp,Act.eval,d1];go_simp,RelW.refl _ _ _,hIW,rfl⟩
     ·have d1:a'.tmps.getD 34 undef = .pointer (some ⟨t.bt,4,none⟩):=dep 13 (by omega) (by kernel_rfl)
      have q4:=hIW.tb 4 _ rfl
      exact .inl ⟨.int .i64 (t.N:Int),W,by simp only[execOp,Act.eval,d1];go_simp,RelW.refl _ _ _,hIW,rfl⟩
     ·have d1:a'.tmps.getD 31 undef = .int .i64 (k:Int):=dep 10 (by omega) (by kernel_rfl)
      have d2:a'.tmps.getD 35 undef = .int .i64 (t.N:Int):=dep 14 (by omega) (by kernel_rfl)
      have hqu:=HRE.out
      exact .inl ⟨.int .i64 (b:Int),W,by simp only[execOp,Act.eval,d1,d2];go_simp;omega,RelW.refl _ _ _,hIW,rfl⟩
     ·have d1:a'.tmps.getD 30 undef = .agg #[.int .i64 t.p,.int .i64 t.c,.int .i64 t.h,.int .i64 t.s]:=dep 9 (by omega) (by kernel_rfl)
      have d2:a'.tmps.getD 36 undef = .int .i64 (b:Int):=dep 15 (by omega) (by kernel_rfl)
      refine .inr ⟨158,#[.agg #[.int .i64 t.p,.int .i64 t.c,.int .i64 t.h,.int .i64 t.s],.int .i64 (b:Int)],by simp only[execOp,Act.eval,d1,d2];go_simp,?_⟩
      refine (CAT.out b W hlb).mono ?_
      rintro e W' ⟨A,ca,rfl,hoa,hba⟩
      have hln:=(HPP.out b hlb).1;rw[hln]at hoa ⊢
      exact⟨_,rfl,RelW.below hba,hIW.below hba,A,ca,rfl,ownS_base hoa (by have:=hW.1.size;omega),hln⟩
     ·have d1:a'.tmps.getD 21 undef = .pointer (some ⟨t.bt,0,none⟩):=dep 0 (by omega) (by kernel_rfl)
      obtain⟨A,ca,d2,hA,hla2⟩:∃A c,a'.tmps.getD 29 undef = .slice A t.h c∧OwnS W wr.heap.size 2 (.slice A t.h c) (atP t.h t.c a)∧(atP t.h t.c a).length=t.h:=dep 8 (by omega) (by kernel_rfl)
      obtain⟨B,cb,d3,hB,hlb2⟩:∃A c,a'.tmps.getD 37 undef = .slice A t.h c∧OwnS W wr.heap.size 2 (.slice A t.h c) (atP t.h t.c b)∧(atP t.h t.c b).length=t.h:=dep 16 (by omega) (by kernel_rfl)
      refine .inr ⟨84,#[.pointer (some ⟨t.bt,0,none⟩),.slice A t.h ca,.slice B t.h cb],by simp only[execOp,Act.eval,d1,d2,d3];go_simp,?_⟩
      have hTl:∀x,T0 x→x<wr.heap.size:=HTL0.out
      have hTm:∀x,(T0 x∨(TagE W x∧RaceI t (fun k=>T0 k∨k=x) W))→x<W.heap.size:=fun x hx=>hx.elim (fun h=>by have:=hTl x h;have:=hW.1.size;omega) fun h=>h.1.lt
      obtain⟨hsa,hca⟩:=ownS_sq hA hla2 (T:=fun x=>T0 x∨(TagE W x∧RaceI t (fun k=>T0 k∨k=x) W)) (fun x hx=>hx.imp (hTl x) fun h=>h.1)
      obtain⟨hsb,hcb⟩:=ownS_sq hB hlb2 (T:=fun x=>T0 x∨(TagE W x∧RaceI t (fun k=>T0 k∨k=x) W)) (fun x hx=>hx.imp (hTl x) fun h=>h.1)
      refine (CW.out (fun x=>T0 x∨(TagE W x∧RaceI t (fun k=>T0 k∨k=x) W)) A B ca cb W (fun x hx h=>by have:=hTm x h;omega) (hIW.un fun x hx=>hx.2) hsa hca hsb hcb).mono ?_
      rintro e W' ⟨rfl,hI',hf'⟩
      refine⟨_,rfl,⟨hf',fun x h1 h2=>⟨h1.frm hf' (h2.noS h1),hI'.less (fun k hk=>hk.imp id fun e=>by rw[e];exact⟨h1,h2⟩) (fun k hk=>.inl (HTS.out k hk))⟩⟩,hI'.less (fun k hk=>.inl hk) HTS.out,rfl⟩
     ·have d1:a'.tmps.getD 38 undef = .tuple #[.agg #[.int .i64 0,.int .i64 0],.bool false]:=dep 17 (by omega) (by kernel_rfl)
      exact .inl ⟨.tuple #[.agg #[.int .i64 0,.int .i64 0],.bool false],W,by simp only[execOp,Act.eval,d1];go_simp,RelW.refl _ _ _,hIW,rfl⟩
     ·have d1:a'.tmps.getD 20 undef = .tuple #[.agg #[.int .i64 0,.int .i64 0],.bool false]:=dep 18 (by omega) (by kernel_rfl)
      exact .inl ⟨.agg #[.int .i64 0,.int .i64 0],W,by simp only[execOp,Act.eval,d1];go_simp,RelW.refl _ _ _,hIW,rfl⟩
     ·refine .inl ⟨.pointer (some ⟨W.heap.size,0,none⟩),W.alloc (.cells #[.int .i64 0,.int .i64 0] 35),by kernel_rfl,RelW.below ((Below.refl _ _).alloc (Nat.le_refl _) _),hIW.alloc _,W.heap.size,rfl,hW.1.size,heap_alloc_new _ _,?_⟩
      exact (hIW.set (T':=fun k=>T0 k∨k=W.heap.size) (fun k hk=>hk.imp id fun e=>by omega) (fun k hk=>.inl (HTS.out k hk))).alloc _
    intro v W hW hIW hg
    have g0:v 0 = .pointer (some ⟨t.bt,0,none⟩):=hg 0 (by omega)
    have g1:v 1 = .agg #[.int .i64 t.p,.int .i64 t.c,.int .i64 t.h,.int .i64 t.s]:=hg 1 (by omega)
    have g2:v 2 = .int .i64 (k:Int):=hg 2 (by omega)
    have g3:v 3 = .pointer (some ⟨t.bt,0,none⟩):=hg 3 (by omega)
    have g4:v 4 = .pointer (some ⟨t.bt,0,none⟩):=hg 4 (by omega)
    have g5:v 5 = .pointer (some ⟨t.bt,4,none⟩):=hg 5 (by omega)
    have g6:v 6 = .int .i64 (t.N:Int):=hg 6 (by omega)
    have g7:v 7 = .int .i64 (a:Int):=hg 7 (by omega)
    obtain⟨_,_,g8,_,_⟩:∃A c,v 8 = .slice A t.h c∧OwnS W wr.heap.size 2 (.slice A t.h c) (atP t.h t.c a)∧(atP t.h t.c a).length=t.h:=hg 8 (by omega)
    have g9:v 9 = .agg #[.int .i64 t.p,.int .i64 t.c,.int .i64 t.h,.int .i64 t.s]:=hg 9 (by omega)
    have g10:v 10 = .int .i64 (k:Int):=hg 10 (by omega)
    have g11:v 11 = .pointer (some ⟨t.bt,0,none⟩):=hg 11 (by omega)
    have g12:v 12 = .pointer (some ⟨t.bt,0,none⟩):=hg 12 (by omega)
    have g13:v 13 = .pointer (some ⟨t.bt,4,none⟩):=hg 13 (by omega)
    have g14:v 14 = .int .i64 (t.N:Int):=hg 14 (by omega)
    have g15:v 15 = .int .i64 (b:Int):=hg 15 (by omega)
    obtain⟨_,_,g16,_,_⟩:∃A c,v 16 = .slice A t.h c∧OwnS W wr.heap.size 2 (.slice A t.h c) (atP t.h t.c b)∧(atP t.h t.c b).length=t.h:=hg 16 (by omega)
    have g17:v 17 = .tuple #[.agg #[.int .i64 0,.int .i64 0],.bool false]:=hg 17 (by omega)
    have g18:v 18 = .tuple #[.agg #[.int .i64 0,.int .i64 0],.bool false]:=hg 18 (by omega)
    have g19:v 19 = .agg #[.int .i64 0,.int .i64 0]:=hg 19 (by omega)
    have g20:v 20 = .bool false:=hg 20 (by omega)
    obtain⟨g',g21,gl,hgh,hgI⟩:∃g,v 21 = .pointer (some ⟨g,0,none⟩)∧wr.heap.size≤g∧W.heap[g]? = some (.cells #[.int .i64 0,.int .i64 0] 35)∧RaceI t (fun k=>T0 k∨k=g) W:=hg 21 (by omega)
    simp only[List.drop_succ_cons,List.drop_zero,putV,w6d,g0,g1,g2,g3,g4,g5,g6,g7,g8,g9,g10,g11,g12,g13,g14,g15,g16,g17,g18,g19,g20,g21,Act.put]
    clear g0 g1 g2 g3 g4 g5 g6 g7 g8 g9 g10 g11 g12 g13 g14 g15 g16 g17 g18 g19 g20 g21 hg;have HW:=Lib.hid hW.1;have HIw:=Lib.hid hgI;obtain⟨y0,y1,y2,y3⟩:=two_cells7 hgh;have yz:=World.block_lt_of_cell? W _ y0;have hgS:¬t.S g':=hgI.noS ⟨_,_,hgh⟩;clear hW hIW hgI hgh
    have HB4:=Lib.hid (HB.out.trans (HW.out.below HB.out.size (fun j hj=>by have:=HSG.out _ hj;omega)))
    clear HO HF
    go_wp2_with (fail)
    go_ret2
    rw[HREN.out]
    refine⟨?_,rfl⟩
    repeat (first|exact HB4.out|refine bd_set ?_ (by omega) _)
   ·have HAL2:Hid (allN (winsF t.h t.c t.s) (k+1)=some (ts++[⟨m,d⟩])):=allN_go HALL.out (HXF.trans hxo)
    rw[hxo]at hcw;have CW:=Lib.hid hcw;clear hxo HXF hcw
    go_wp2_with (fail)
    refine wp_region_early 22 (fun i=>i == 20) w6d (RelW t T0) (RaceI t T0) (w6G t T0 wr k a b (atP t.h t.c a) (atP t.h t.c b) (.tuple #[.agg #[.int .i64 m,.int .i64 (d:Int)],.bool true]) (.agg #[.int .i64 m,.int .i64 (d:Int)]) (.bool true)) (by kernel_rfl) (by kernel_rfl) (fun _ _ _ _ _ h=>h) (fun _ _ _ h1 h2=>h1.trans h2) (fun _=>RelW.refl _ _ _) (w6_stab hlowr.out) (RelW.below (drw (Below.refl _ _))) HI.out.drew ?_ ?_ ?_
    ·intro i o hi hX ho a' W hW hIW hfar hdep
     have dep:∀j,j<22→Region.waitsFor .any _ i j=true→w6G t T0 wr k a b (atP t.h t.c a) (atP t.h t.c b) (.tuple #[.agg #[.int .i64 m,.int .i64 (d:Int)],.bool true]) (.agg #[.int .i64 m,.int .i64 (d:Int)]) (.bool true) j (a'.tmps.getD (w6d j) undef) W:=hdep
     have hi8:i=20:=by simpa using hX
     clear hfar;subst hi8
     simp at ho
     subst ho
     have d1:a'.tmps.getD 20 undef = .tuple #[.agg #[.int .i64 m,.int .i64 (d:Int)],.bool true]:=dep 18 (by omega) (by kernel_rfl)
     exact⟨.bool true,fun W'=>by simp only[execOp,Act.eval,d1];go_simp,rfl⟩
    ·intro i o hi hX ho a' W hW hIW hfar hdep
     have e2:a'.tmps.getD 2 undef = .pointer (some ⟨w.heap.size,0,none⟩):=(hfar 2 (fun j _=>by have:=w6_ge j;omega)).trans rfl
     have e6:a'.tmps.getD 6 undef = .pointer (some ⟨t.bt,0,none⟩):=(hfar 6 (fun j _=>by have:=w6_ge j;omega)).trans rfl
     have e8:a'.tmps.getD 8 undef = .int .i64 (k:Int):=(hfar 8 (fun j _=>by have:=w6_ge j;omega)).trans rfl
     have dep:∀j,j<22→Region.waitsFor .any _ i j=true→w6G t T0 wr k a b (atP t.h t.c a) (atP t.h t.c b) (.tuple #[.agg #[.int .i64 m,.int .i64 (d:Int)],.bool true]) (.agg #[.int .i64 m,.int .i64 (d:Int)]) (.bool true) j (a'.tmps.getD (w6d j) undef) W:=hdep
     have hX2:i≠20:=by simpa using hX
     have hi8:i=0∨i=1∨i=2∨i=3∨i=4∨i=5∨i=6∨i=7∨i=8∨i=9∨i=10∨i=11∨i=12∨i=13∨i=14∨i=15∨i=16∨i=17∨i=18∨i=19∨i=21:=by omega
     clear hfar
     rcases hi8 with rfl|rfl|rfl|rfl|rfl|rfl|rfl|rfl|rfl|rfl|rfl|rfl|rfl|rfl|rfl|rfl|rfl|rfl|rfl|rfl|rfl
     all_goals
      simp at ho
      subst ho
     ·exact .inl ⟨.pointer (some ⟨t.bt,0,none⟩),W,by simp only[execOp,Act.eval,e6];go_simp,RelW.refl _ _ _,hIW,rfl⟩
     ·have q0:=hW.1.cell' (HV.out.cell 0 _ rfl) HWS.out
      have q1:=hW.1.cell' (HV.out.cell 1 _ rfl) HWS.out;have q2:=hW.1.cell' (HV.out.cell 2 _ rfl) HWS.out;have q3:=hW.1.cell' (HV.out.cell 3 _ rfl) HWS.out
      exact .inl ⟨.agg #[.int .i64 t.p,.int .i64 t.c,.int .i64 t.h,.int .i64 t.s],W,by simp only[execOp,Act.eval,e2];go_simp,RelW.refl _ _ _,hIW,rfl⟩
     ·exact .inl ⟨.int .i64 (k:Int),W,by simp only[execOp,Act.eval,e8];go_simp,RelW.refl _ _ _,hIW,rfl⟩
     ·exact .inl ⟨.pointer (some ⟨t.bt,0,none⟩),W,by simp only[execOp,Act.eval,e6];go_simp,RelW.refl _ _ _,hIW,rfl⟩
     ·have d1:a'.tmps.getD 24 undef = .pointer (some ⟨t.bt,0,none⟩):=dep 3 (by omega) (by kernel_rfl)
      exact .inl ⟨.pointer (some ⟨t.bt,0,none⟩),W,by simp only[execOp,Act.eval,d1];go_simp,RelW.refl _ _ _,hIW,rfl⟩
     ·have d1:a'.tmps.getD 25 undef = .pointer (some ⟨t.bt,0,none⟩):=dep 4 (by omega) (by kernel_rfl)
      exact .inl ⟨.pointer (some ⟨t.bt,4,none⟩),W,by simp only[execOp,Act.eval,d1];go_simp,RelW.refl _ _ _,hIW,rfl⟩
     ·have d1:a'.tmps.getD 26 undef = .pointer (some ⟨t.bt,4,none⟩):=dep 5 (by omega) (by kernel_rfl)
      have q4:=hIW.tb 4 _ rfl
      exact .inl ⟨.int .i64 (t.N:Int),W,by simp only[execOp,Act.eval,d1];go_simp,RelW.refl _ _ _,hIW,rfl⟩
     ·have d1:a'.tmps.getD 23 undef = .int .i64 (k:Int):=dep 2 (by omega) (by kernel_rfl)
      have d2:a'.tmps.getD 27 undef = .int .i64 (t.N:Int):=dep 6 (by omega) (by kernel_rfl)
      have hqu:=HQU.out
      exact .inl ⟨.int .i64 (a:Int),W,by simp only[execOp,Act.eval,d1,d2];go_simp;omega,RelW.refl _ _ _,hIW,rfl⟩
     ·have d1:a'.tmps.getD 22 undef = .agg #[.int .i64 t.p,.int .i64 t.c,.int .i64 t.h,.int .i64 t.s]:=dep 1 (by omega) (by kernel_rfl)
      have d2:a'.tmps.getD 28 undef = .int .i64 (a:Int):=dep 7 (by omega) (by kernel_rfl)
      refine .inr ⟨158,#[.agg #[.int .i64 t.p,.int .i64 t.c,.int .i64 t.h,.int .i64 t.s],.int .i64 (a:Int)],by simp only[execOp,Act.eval,d1,d2];go_simp,?_⟩
      refine (CAT.out a W hla).mono ?_
      rintro e W' ⟨A,ca,rfl,hoa,hba⟩
      have hln:=(HPP.out a hla).1;rw[hln]at hoa ⊢
      exact⟨_,rfl,RelW.below hba,hIW.below hba,A,ca,rfl,ownS_base hoa (by have:=hW.1.size;omega),hln⟩
     ·have q0:=hW.1.cell' (HV.out.cell 0 _ rfl) HWS.out
      have q1:=hW.1.cell' (HV.out.cell 1 _ rfl) HWS.out;have q2:=hW.1.cell' (HV.out.cell 2 _ rfl) HWS.out;have q3:=hW.1.cell' (HV.out.cell 3 _ rfl) HWS.out
      exact .inl ⟨.agg #[.int .i64 t.p,.int .i64 t.c,.int .i64 t.h,.int .i64 t.s],W,by simp only[execOp,Act.eval,e2];go_simp,RelW.refl _ _ _,hIW,rfl⟩
     ·exact .inl ⟨.int .i64 (k:Int),W,by simp only[execOp,Act.eval,e8];go_simp,RelW.refl _ _ _,hIW,rfl⟩
     ·exact .inl ⟨.pointer (some ⟨t.bt,0,none⟩),W,by simp only[execOp,Act.eval,e6];go_simp,RelW.refl _ _ _,hIW,rfl⟩
     ·have d1:a'.tmps.getD 32 undef = .pointer (some ⟨t.bt,0,none⟩):=dep 11 (by omega) (by kernel_rfl)
      exact .inl ⟨.pointer (some ⟨t.bt,0,none⟩),W,by simp only[execOp,Act.eval,d1];go_simp,RelW.refl _ _ _,hIW,rfl⟩
     ·have d1:a'.tmps.getD 33 undef = .pointer (some ⟨t.bt,0,none⟩):=dep 12 (by omega) (by kernel_rfl)
      exact .inl ⟨.pointer (some ⟨t.bt,4,none⟩),W,by simp only[execOp,Act.eval,d1];go_simp,RelW.refl _ _ _,hIW,rfl⟩
     ·have d1:a'.tmps.getD 34 undef = .pointer (some ⟨t.bt,4,none⟩):=dep 13 (by omega) (by kernel_rfl)
      have q4:=hIW.tb 4 _ rfl
      exact .inl ⟨.int .i64 (t.N:Int),W,by simp only[execOp,Act.eval,d1];go_simp,RelW.refl _ _ _,hIW,rfl⟩
     ·have d1:a'.tmps.getD 31 undef = .int .i64 (k:Int):=dep 10 (by omega) (by kernel_rfl)
      have d2:a'.tmps.getD 35 undef = .int .i64 (t.N:Int):=dep 14 (by omega) (by kernel_rfl)
      have hqu:=HRE.out
      exact .inl ⟨.int .i64 (b:Int),W,by simp only[execOp,Act.eval,d1,d2];go_simp;omega,RelW.refl _ _ _,hIW,rfl⟩
     ·have d1:a'.tmps.getD 30 undef = .agg #[.int .i64 t.p,.int .i64 t.c,.int .i64 t.h,.int .i64 t.s]:=dep 9 (by omega) (by kernel_rfl)
      have d2:a'.tmps.getD 36 undef = .int .i64 (b:Int):=dep 15 (by omega) (by kernel_rfl)
      refine .inr ⟨158,#[.agg #[.int .i64 t.p,.int .i64 t.c,.int .i64 t.h,.int .i64 t.s],.int .i64 (b:Int)],by simp only[execOp,Act.eval,d1,d2];go_simp,?_⟩
      refine (CAT.out b W hlb).mono ?_
      rintro e W' ⟨A,ca,rfl,hoa,hba⟩
      have hln:=(HPP.out b hlb).1;rw[hln]at hoa ⊢
      exact⟨_,rfl,RelW.below hba,hIW.below hba,A,ca,rfl,ownS_base hoa (by have:=hW.1.size;omega),hln⟩
     ·have d1:a'.tmps.getD 21 undef = .pointer (some ⟨t.bt,0,none⟩):=dep 0 (by omega) (by kernel_rfl)
      obtain⟨A,ca,d2,hA,hla2⟩:∃A c,a'.tmps.getD 29 undef = .slice A t.h c∧OwnS W wr.heap.size 2 (.slice A t.h c) (atP t.h t.c a)∧(atP t.h t.c a).length=t.h:=dep 8 (by omega) (by kernel_rfl)
      obtain⟨B,cb,d3,hB,hlb2⟩:∃A c,a'.tmps.getD 37 undef = .slice A t.h c∧OwnS W wr.heap.size 2 (.slice A t.h c) (atP t.h t.c b)∧(atP t.h t.c b).length=t.h:=dep 16 (by omega) (by kernel_rfl)
      refine .inr ⟨84,#[.pointer (some ⟨t.bt,0,none⟩),.slice A t.h ca,.slice B t.h cb],by simp only[execOp,Act.eval,d1,d2,d3];go_simp,?_⟩
      have hTl:∀x,T0 x→x<wr.heap.size:=HTL0.out
      have hTm:∀x,(T0 x∨(TagE W x∧RaceI t (fun k=>T0 k∨k=x) W))→x<W.heap.size:=fun x hx=>hx.elim (fun h=>by have:=hTl x h;have:=hW.1.size;omega) fun h=>h.1.lt
      obtain⟨hsa,hca⟩:=ownS_sq hA hla2 (T:=fun x=>T0 x∨(TagE W x∧RaceI t (fun k=>T0 k∨k=x) W)) (fun x hx=>hx.imp (hTl x) fun h=>h.1)
      obtain⟨hsb,hcb⟩:=ownS_sq hB hlb2 (T:=fun x=>T0 x∨(TagE W x∧RaceI t (fun k=>T0 k∨k=x) W)) (fun x hx=>hx.imp (hTl x) fun h=>h.1)
      refine (CW.out (fun x=>T0 x∨(TagE W x∧RaceI t (fun k=>T0 k∨k=x) W)) A B ca cb W (fun x hx h=>by have:=hTm x h;omega) (hIW.un fun x hx=>hx.2) hsa hca hsb hcb).mono ?_
      rintro e W' ⟨rfl,hI',hf'⟩
      refine⟨_,rfl,⟨hf',fun x h1 h2=>⟨h1.frm hf' (h2.noS h1),hI'.less (fun k hk=>hk.imp id fun e=>by rw[e];exact⟨h1,h2⟩) (fun k hk=>.inl (HTS.out k hk))⟩⟩,hI'.less (fun k hk=>.inl hk) HTS.out,rfl⟩
     ·have d1:a'.tmps.getD 38 undef = .tuple #[.agg #[.int .i64 m,.int .i64 (d:Int)],.bool true]:=dep 17 (by omega) (by kernel_rfl)
      exact .inl ⟨.tuple #[.agg #[.int .i64 m,.int .i64 (d:Int)],.bool true],W,by simp only[execOp,Act.eval,d1];go_simp,RelW.refl _ _ _,hIW,rfl⟩
     ·have d1:a'.tmps.getD 20 undef = .tuple #[.agg #[.int .i64 m,.int .i64 (d:Int)],.bool true]:=dep 18 (by omega) (by kernel_rfl)
      exact .inl ⟨.agg #[.int .i64 m,.int .i64 (d:Int)],W,by simp only[execOp,Act.eval,d1];go_simp,RelW.refl _ _ _,hIW,rfl⟩
     ·refine .inl ⟨.pointer (some ⟨W.heap.size,0,none⟩),W.alloc (.cells #[.int .i64 0,.int .i64 0] 35),by kernel_rfl,RelW.below ((Below.refl _ _).alloc (Nat.le_refl _) _),hIW.alloc _,W.heap.size,rfl,hW.1.size,heap_alloc_new _ _,?_⟩
      exact (hIW.set (T':=fun k=>T0 k∨k=W.heap.size) (fun k hk=>hk.imp id fun e=>by omega) (fun k hk=>.inl (HTS.out k hk))).alloc _
    intro v W hW hIW hg
    have g0:v 0 = .pointer (some ⟨t.bt,0,none⟩):=hg 0 (by omega)
    have g1:v 1 = .agg #[.int .i64 t.p,.int .i64 t.c,.int .i64 t.h,.int .i64 t.s]:=hg 1 (by omega)
    have g2:v 2 = .int .i64 (k:Int):=hg 2 (by omega)
    have g3:v 3 = .pointer (some ⟨t.bt,0,none⟩):=hg 3 (by omega)
    have g4:v 4 = .pointer (some ⟨t.bt,0,none⟩):=hg 4 (by omega)
    have g5:v 5 = .pointer (some ⟨t.bt,4,none⟩):=hg 5 (by omega)
    have g6:v 6 = .int .i64 (t.N:Int):=hg 6 (by omega)
    have g7:v 7 = .int .i64 (a:Int):=hg 7 (by omega)
    obtain⟨_,_,g8,_,_⟩:∃A c,v 8 = .slice A t.h c∧OwnS W wr.heap.size 2 (.slice A t.h c) (atP t.h t.c a)∧(atP t.h t.c a).length=t.h:=hg 8 (by omega)
    have g9:v 9 = .agg #[.int .i64 t.p,.int .i64 t.c,.int .i64 t.h,.int .i64 t.s]:=hg 9 (by omega)
    have g10:v 10 = .int .i64 (k:Int):=hg 10 (by omega)
    have g11:v 11 = .pointer (some ⟨t.bt,0,none⟩):=hg 11 (by omega)
    have g12:v 12 = .pointer (some ⟨t.bt,0,none⟩):=hg 12 (by omega)
    have g13:v 13 = .pointer (some ⟨t.bt,4,none⟩):=hg 13 (by omega)
    have g14:v 14 = .int .i64 (t.N:Int):=hg 14 (by omega)
    have g15:v 15 = .int .i64 (b:Int):=hg 15 (by omega)
    obtain⟨_,_,g16,_,_⟩:∃A c,v 16 = .slice A t.h c∧OwnS W wr.heap.size 2 (.slice A t.h c) (atP t.h t.c b)∧(atP t.h t.c b).length=t.h:=hg 16 (by omega)
    have g17:v 17 = .tuple #[.agg #[.int .i64 m,.int .i64 (d:Int)],.bool true]:=hg 17 (by omega)
    have g18:v 18 = .tuple #[.agg #[.int .i64 m,.int .i64 (d:Int)],.bool true]:=hg 18 (by omega)
    have g19:v 19 = .agg #[.int .i64 m,.int .i64 (d:Int)]:=hg 19 (by omega)
    have g20:v 20 = .bool true:=hg 20 (by omega)
    obtain⟨g',g21,gl,hgh,hgI⟩:∃g,v 21 = .pointer (some ⟨g,0,none⟩)∧wr.heap.size≤g∧W.heap[g]? = some (.cells #[.int .i64 0,.int .i64 0] 35)∧RaceI t (fun k=>T0 k∨k=g) W:=hg 21 (by omega)
    simp only[List.drop_succ_cons,List.drop_zero,putV,w6d,g0,g1,g2,g3,g4,g5,g6,g7,g8,g9,g10,g11,g12,g13,g14,g15,g16,g17,g18,g19,g20,g21,Act.put]
    clear g0 g1 g2 g3 g4 g5 g6 g7 g8 g9 g10 g11 g12 g13 g14 g15 g16 g17 g18 g19 g20 g21 hg;have HW:=Lib.hid hW.1;have HIw:=Lib.hid hgI;obtain⟨y0,y1,y2,y3⟩:=two_cells7 hgh;have yz:=World.block_lt_of_cell? W _ y0;have hgS:¬t.S g':=hgI.noS ⟨_,_,hgh⟩;clear hW hIW hgI hgh
    have hgz:g<wr.heap.size:=by omega
    have hgg:¬g=g':=by omega
    have hgg2:¬g'=g:=by omega
    have HO4:=Lib.hid (HW.out.rowE HO.out (fun j hj h=>by have h2:g=j:=Option.some.inj hj;have:=HSL.out j h;omega))
    have hs2:Frm (fun x=>x=g') W ((W.setCell ⟨g',0,none⟩ (.int .i64 m)).setCell ⟨g',1,none⟩ (.int .i64 (d:Int))):=(Frm.set _ _ _ _).trans (Frm.set _ _ _ _)
    have HO5:=Lib.hid (hs2.rowE HO4.out (fun j hj h=>by have h2:g=j:=Option.some.inj hj;omega))
    have HI5:Hid (RaceI t T0 ((W.setCell ⟨g',0,none⟩ (.int .i64 m)).setCell ⟨g',1,none⟩ (.int .i64 (d:Int)))):=(HIw.out.own hs2 (fun x hx=>.inr hx) (fun x hx=>by rw[hx];exact hgS)).less (fun k hk=>.inl hk) HTS.out
    have HF5:=Lib.hid ((HF.out.trans (HW.out.mono HTS.out)).outs hs2 (fun x hx=>by rw[hx];omega))
    have hx:(ts++List.replicate (N-k) (zeroE':E)).length=N:=by rw[List.length_append,List.length_replicate,HTL.out];omega
    have g0:((W.setCell ⟨g',0,none⟩ (.int .i64 m)).setCell ⟨g',1,none⟩ (.int .i64 (d:Int))).cell? ⟨g',0,none⟩=some (.int .i64 m):=by simp[go_sem,y0,yz]
    have g1:((W.setCell ⟨g',0,none⟩ (.int .i64 m)).setCell ⟨g',1,none⟩ (.int .i64 (d:Int))).cell? ⟨g',1,none⟩=some (.int .i64 (d:Int)):=by simp[go_sem,y1,yz]
    have hzX:wr.heap.size≤((W.setCell ⟨g',0,none⟩ (.int .i64 m)).setCell ⟨g',1,none⟩ (.int .i64 (d:Int))).heap.size:=by have:=HW.out.size;simpa using this
    clear HO HF HI HW HIw HO4 hs2 CW HB HV
    go_upto_region 9 with (fail)
    generalize (W.setCell ⟨g',0,none⟩ (.int .i64 m)).setCell ⟨g',1,none⟩ (.int .i64 (d:Int))=X at *;clear y0 y1 y2 y3 yz
    obtain⟨gg,hg',_,_,hcl,hfr⟩:=own_formE HO5.out (by omega)
    injection hg' with hg';injection hg' with hg' _ _;subst hg'
    obtain⟨y0,y1⟩:=hcl k (by omega)
    have f0:=hfr (k*2);have f1:=hfr (k*2+1)
    have hgX:g<X.heap.size:=by omega
    have HO6:=Lib.hid (HO5.out.stored k m d);rw[fill_step HTL.out hlt]at HO6
    have hfs:Frm T0 X ((X.setCell ⟨g,k*2,none⟩ (.int .i64 m)).setCell ⟨g,k*2+1,none⟩ (.int .i64 (d:Int))):=((Frm.set _ g (k*2) _).trans (Frm.set _ g (k*2+1) _)).mono fun j hj=>by rw[hj];exact HTG.out
    have HF6:=Lib.hid (HF5.out.trans hfs)
    have HI6:Hid (RaceI t T0 ((X.setCell ⟨g,k*2,none⟩ (.int .i64 m)).setCell ⟨g,k*2+1,none⟩ (.int .i64 (d:Int)))):=HI5.out.own (O:=fun x=>x=g) ((Frm.set _ g (k*2) _).trans (Frm.set _ g (k*2+1) _)) (fun x hx=>by rw[hx];exact HTG.out) (fun x hx h=>by rw[hx]at h;have:=HSL.out _ h;omega)
    clear hx hcl hfr hfs HO5 HF5 HI5;generalize (ts++List.replicate (N-k) (zeroE':E)).getD k ⟨0,0⟩=el at *
    go_wp2_with (fail)
    have hw1:IntKind.i64.wrap ((k:Int)+1)=((k+1:Nat):Int):=IntWalk.i64_in _ (by omega)
    go_roundw
    case rel=>exact⟨k+1,by omega,by omega,by go_num,⟨_,HAL2.out,HO6.out⟩,HI6.out,HF6.out⟩
    case measure=>(simp[intOf])<;>omega
  ·have hke:k=N:=by omega
   subst hke
   have HR:Hid (RetDbs w (allN (winsF t.h t.c t.s) k) (.returned (.tuple #[.slice (some ⟨g,0,none⟩) k k,.bool true])) wr):=by
    unfold Hid;rw[HALL.out];have h:=HO.out;rw[Nat.sub_self,List.replicate_zero,List.append_nil]at h
    exact⟨HB.out,_,rfl,h⟩
   clear HO HALL
   go_wp2_with (fail)
   go_ret2
   exact HR.out
end Go.Proofs.YtkaiilmgemaljaaGreat

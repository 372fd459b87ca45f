/- Contract of a drawn variant. There are no conditions beyond those that it states. -/
import Derived.Test.YtkaiilmgemaljaaGreatPD2
import Derived.Test.YtkaiilmgemaljaaGreatPZt
import Derived.Test.YtkaiilmgemaljaaGreatPZb
set_option linter.unusedVariables false
set_option linter.unusedSimpArgs false
namespace Go.Proofs.YtkaiilmgemaljaaGreat
open Go.RowKit
def dvF (bs:List Int) (q:Int×Nat):(Int×Int×Int×Int)×(Int×Nat):=
 let q1:=ns bs q 3;let q2:=ns bs q1 3;let q3:=ns bs q2 3;let q4:=ns bs q3 24
 if nx bs q3 24=0 then ((6,1+nx bs q 3,1+nx bs q1 3,7*nx bs q4 2),ns bs q4 2)
 else if nx bs q3 24=1 then ((6,16*nx bs q4 2,1+nx bs q1 3,1+nx bs q2 3),ns bs q4 2)
 else if nx bs q3 24=2 then ((24,15,6,6),q4)
 else ((6,1+nx bs q 3,1+nx bs q1 3,1+nx bs q2 3),q4)
theorem dvF_bd (bs:List Int) (q:Int×Nat):let v:=(dvF bs q).1;0≤v.1∧v.1≤24∧0≤v.2.1∧v.2.1≤16∧1≤v.2.2.1∧v.2.2.1≤6∧0≤v.2.2.2∧v.2.2.2≤7:=by
 have h1:=nx_bd bs q 3;have h2:=nx_bd bs (ns bs q 3) 3;have h3:=nx_bd bs (ns bs (ns bs q 3) 3) 3;have h5:=nx_bd bs (ns bs (ns bs (ns bs (ns bs q 3) 3) 3) 24) 2;unfold dvF
 dsimp only
 split
 ·dsimp only;omega
 ·split
  ·dsimp only;omega
  ·split
   ·dsimp only;omega
   ·dsimp only;omega
def RetDv (g:Nat) (C:Option Addr) (n c:Nat) (bs:List Int) (W:World) (r:(Int×Int×Int×Int)×(Int×Nat)) (e:Ending) (W':World):Prop:=
 e = .returned (.agg #[.int .i64 r.1.1,.int .i64 r.1.2.1,.int .i64 r.1.2.2.1,.int .i64 r.1.2.2.2])∧SrcG W' g C n c bs r.2∧Frm (fun j=>j=g) W W'
set_option maxRecDepth 100000 in
set_option maxHeartbeats 3000000 in
theorem l09DrawVariant_any (g:Nat) (C:Option Addr) (n c:Nat) (bs:List Int) (q:Int×Nat) (W:World) (h:SrcG W g C n c bs q):
  Calls Tryz.prog 160 #[.pointer (some ⟨g,0,none⟩)] W (RetDv g C n c bs W (dvF bs q)):=by
 have hg:=h.lt
 have HF0:Hid (FrS (fun j=>j=g) W (W.alloc (.cells #[.int .i64 0,.int .i64 0,.int .i64 0,.int .i64 0] 25)) [[.int .i64 0,.int .i64 0,.int .i64 0,.int .i64 0]]):=(FrS.start W (fun k hk=>by rw[hk];exact hg)).allocT (by simp) _ _
 have HS0:=Lib.hid (h.alloc (.cells #[.int .i64 0,.int .i64 0,.int .i64 0,.int .i64 0] 25));have hx1:=nx_bd bs q 3;have hx2:=nx_bd bs (ns bs q 3) 3;have hx3:=nx_bd bs (ns bs (ns bs q 3) 3) 3;have hx4:=nx_bd bs (ns bs (ns bs (ns bs q 3) 3) 3) 24;have hx5:=nx_bd bs (ns bs (ns bs (ns bs (ns bs q 3) 3) 3) 24) 2
 have HD:Hid (dvF bs q=if nx bs (ns bs (ns bs (ns bs q 3) 3) 3) 24=0 then ((6,1+nx bs q 3,1+nx bs (ns bs q 3) 3,7*nx bs (ns bs (ns bs (ns bs (ns bs q 3) 3) 3) 24) 2),ns bs (ns bs (ns bs (ns bs (ns bs q 3) 3) 3) 24) 2)
  else if nx bs (ns bs (ns bs (ns bs q 3) 3) 3) 24=1 then ((6,16*nx bs (ns bs (ns bs (ns bs (ns bs q 3) 3) 3) 24) 2,1+nx bs (ns bs q 3) 3,1+nx bs (ns bs (ns bs q 3) 3) 3),ns bs (ns bs (ns bs (ns bs (ns bs q 3) 3) 3) 24) 2)
  else if nx bs (ns bs (ns bs (ns bs q 3) 3) 3) 24=2 then ((24,15,6,6),ns bs (ns bs (ns bs (ns bs q 3) 3) 3) 24)
  else ((6,1+nx bs q 3,1+nx bs (ns bs q 3) 3,1+nx bs (ns bs (ns bs q 3) 3) 3),ns bs (ns bs (ns bs (ns bs q 3) 3) 3) 24)):=rfl
 clear h
 go_enter Tryz.func160,Tryz.ntmps160
 go_wp2_with (fail)
 refine (next_any HS0.out (k:=3) (by omega)).mono ?_
 rintro e w1 ⟨rfl,hs,hf⟩
 have HS1:=Lib.hid hs;have HF1:=Lib.hid (HF0.out.frm hf);clear hs hf HS0 HF0;generalize nx bs q 3=x1 at *
 go_wp2_with (fail)
 refine (next_any HS1.out (k:=3) (by omega)).mono ?_
 rintro e w2 ⟨rfl,hs,hf⟩
 have HS2:=Lib.hid hs;have HF2:=Lib.hid (HF1.out.frm hf);clear hs hf HS1 HF1;generalize nx bs (ns bs q 3) 3=x2 at *
 go_wp2_with (fail)
 refine (next_any HS2.out (k:=3) (by omega)).mono ?_
 rintro e w3 ⟨rfl,hs,hf⟩
 have HS3:=Lib.hid hs;have HF3:=Lib.hid (HF2.out.frm hf);clear hs hf HS2 HF2;generalize nx bs (ns bs (ns bs q 3) 3) 3=x3 at *;generalize ns bs (ns bs (ns bs q 3) 3) 3=q3 at *
 go_wp2_with (fail)
 have HSA:=Lib.hid (HS3.out.alloc (.cells #[.int .i64 6,.int .i64 (1+x1),.int .i64 (1+x2),.int .i64 (1+x3)] 25));have HFA:=Lib.hid (HF3.out.alloc (.cells #[.int .i64 6,.int .i64 (1+x1),.int .i64 (1+x2),.int .i64 (1+x3)] 25));have HCA:Hid (Cel (w3.alloc (.cells #[.int .i64 6,.int .i64 (1+x1),.int .i64 (1+x2),.int .i64 (1+x3)] 25)) w3.heap.size [.int .i64 6,.int .i64 (1+x1),.int .i64 (1+x2),.int .i64 (1+x3)]):=Cel.new w3 #[.int .i64 6,.int .i64 (1+x1),.int .i64 (1+x2),.int .i64 (1+x3)] _;have hgv:g<w3.heap.size:=HS3.out.lt
 have hwv:W.heap.size+1≤w3.heap.size:=by have:=HF3.out.z;simpa using this
 clear HS3 HF3;generalize w3.alloc (.cells #[.int .i64 6,.int .i64 (1+x1),.int .i64 (1+x2),.int .i64 (1+x3)] 25)=w4 at *
 refine (next_any HSA.out (k:=24) (by omega)).mono ?_
 rintro e w5 ⟨rfl,hs,hf⟩
 have HS5:=Lib.hid hs;have HF5:=Lib.hid (HFA.out.frm hf)
 have HC5:Hid (Cel w5 w3.heap.size [.int .i64 6,.int .i64 (1+x1),.int .i64 (1+x2),.int .i64 (1+x3)]):=⟨Nat.lt_of_lt_of_le HCA.out.lt hf.size,fun i x hx=>hf.cell' (HCA.out.cell i x hx) (by omega),fun i x hx=>(frm_froz hf HCA.out.lt (by omega)).trans (HCA.out.froz i x hx)⟩
 clear hs hf HSA HFA HCA;generalize nx bs q3 24=k4 at *;generalize ns bs q3 24=q4 at *
 by_cases h0:k4=0
 ·have HR:Hid (dvF bs q=((6,1+x1,1+x2,7*nx bs q4 2),ns bs q4 2)):=by unfold Hid;rw[HD.out,if_pos h0]
  subst h0
  go_wp2_with (fail)
  refine (next_any HS5.out (k:=2) (by omega)).mono ?_
  rintro e w6 ⟨rfl,hs,hf⟩
  have HS6:=Lib.hid hs;have HFZ:=Lib.hid (HF5.out.frm hf);have HSZ:=HS6
  have HC6:Hid (Cel w6 w3.heap.size [.int .i64 6,.int .i64 (1+x1),.int .i64 (1+x2),.int .i64 (1+x3)]):=⟨Nat.lt_of_lt_of_le HC5.out.lt hf.size,fun i x hx=>hf.cell' (HC5.out.cell i x hx) (by omega),fun i x hx=>(frm_froz hf HC5.out.lt (by omega)).trans (HC5.out.froz i x hx)⟩
  clear hs hf HS5 HF5 HC5 HD;generalize nx bs q4 2=x5 at *;have v0:=HC6.out.cell 0 _ rfl;have v1:=HC6.out.cell 1 _ rfl;have v2:=HC6.out.cell 2 _ rfl;have v3:=HC6.out.cell 3 _ rfl;have vf0:=HC6.out.froz 0 _ rfl;have vf1:=HC6.out.froz 1 _ rfl;have vf2:=HC6.out.froz 2 _ rfl;have vf3:=HC6.out.froz 3 _ rfl;have vz:=HC6.out.lt
  have hn1:¬W.heap.size=w3.heap.size:=by omega
  have hn2:¬w3.heap.size=W.heap.size:=by omega
  obtain⟨z0,c00,f00,c01,f01,c02,f02,c03,f03⟩:=HFZ.out.xf2
  go_wp2_with (fail)
  refine bodyPost_ret (v:=.agg #[.int .i64 6,.int .i64 (1+x1),.int .i64 (1+x2),.int .i64 (7*x5)]) (by simp[results,Tryz.results160,go_sem,z0,c00,c01,c02,c03,f00,f01,f02,f03]) rfl ?_
  rw[HR.out]
  refine⟨rfl,?_,?_⟩
  ·repeat (with_reducible first|exact HSZ.out|refine SrcG.set ?_ (by omega) _)
  ·repeat (with_reducible first|exact HFZ.out.f|refine Frm.ownSet ?_ (by omega) _)
 by_cases h1:k4=1
 ·have HR:Hid (dvF bs q=((6,16*nx bs q4 2,1+x2,1+x3),ns bs q4 2)):=by unfold Hid;rw[HD.out,if_neg h0,if_pos h1]
  subst h1
  go_wp2_with (fail)
  refine (next_any HS5.out (k:=2) (by omega)).mono ?_
  rintro e w6 ⟨rfl,hs,hf⟩
  have HS6:=Lib.hid hs;have HFZ:=Lib.hid (HF5.out.frm hf);have HSZ:=HS6
  have HC6:Hid (Cel w6 w3.heap.size [.int .i64 6,.int .i64 (1+x1),.int .i64 (1+x2),.int .i64 (1+x3)]):=⟨Nat.lt_of_lt_of_le HC5.out.lt hf.size,fun i x hx=>hf.cell' (HC5.out.cell i x hx) (by omega),fun i x hx=>(frm_froz hf HC5.out.lt (by omega)).trans (HC5.out.froz i x hx)⟩
  clear hs hf HS5 HF5 HC5 HD;generalize nx bs q4 2=x5 at *;have v0:=HC6.out.cell 0 _ rfl;have v1:=HC6.out.cell 1 _ rfl;have v2:=HC6.out.cell 2 _ rfl;have v3:=HC6.out.cell 3 _ rfl;have vf0:=HC6.out.froz 0 _ rfl;have vf1:=HC6.out.froz 1 _ rfl;have vf2:=HC6.out.froz 2 _ rfl;have vf3:=HC6.out.froz 3 _ rfl;have vz:=HC6.out.lt
  have hn1:¬W.heap.size=w3.heap.size:=by omega
  have hn2:¬w3.heap.size=W.heap.size:=by omega
  obtain⟨z0,c00,f00,c01,f01,c02,f02,c03,f03⟩:=HFZ.out.xf2
  go_wp2_with (fail)
  refine bodyPost_ret (v:=.agg #[.int .i64 6,.int .i64 (16*x5),.int .i64 (1+x2),.int .i64 (1+x3)]) (by simp[results,Tryz.results160,go_sem,z0,c00,c01,c02,c03,f00,f01,f02,f03]) rfl ?_
  rw[HR.out]
  refine⟨rfl,?_,?_⟩
  ·repeat (with_reducible first|exact HSZ.out|refine SrcG.set ?_ (by omega) _)
  ·repeat (with_reducible first|exact HFZ.out.f|refine Frm.ownSet ?_ (by omega) _)
 have HFZ:=HF5;have HSZ:=HS5;have v0:=HC5.out.cell 0 _ rfl;have v1:=HC5.out.cell 1 _ rfl;have v2:=HC5.out.cell 2 _ rfl;have v3:=HC5.out.cell 3 _ rfl;have vf0:=HC5.out.froz 0 _ rfl;have vf1:=HC5.out.froz 1 _ rfl;have vf2:=HC5.out.froz 2 _ rfl;have vf3:=HC5.out.froz 3 _ rfl;have vz:=HC5.out.lt
 have hn1:¬W.heap.size=w3.heap.size:=by omega
 have hn2:¬w3.heap.size=W.heap.size:=by omega
 by_cases h2:k4=2
 ·have HR:Hid (dvF bs q=((24,15,6,6),q4)):=by unfold Hid;rw[HD.out,if_neg h0,if_neg h1,if_pos h2]
  subst h2;clear HD;obtain⟨z0,c00,f00,c01,f01,c02,f02,c03,f03⟩:=HFZ.out.xf2
  go_wp2_with (fail)
  refine bodyPost_ret (v:=.agg #[.int .i64 24,.int .i64 15,.int .i64 6,.int .i64 6]) (by simp[results,Tryz.results160,go_sem,z0,c00,c01,c02,c03,f00,f01,f02,f03]) rfl ?_
  rw[HR.out]
  refine⟨rfl,?_,?_⟩
  ·repeat (with_reducible first|exact HSZ.out|refine SrcG.set ?_ (by omega) _)
  ·repeat (with_reducible first|exact HFZ.out.f|refine Frm.ownSet ?_ (by omega) _)
 ·have HR:Hid (dvF bs q=((6,1+x1,1+x2,1+x3),q4)):=by unfold Hid;rw[HD.out,if_neg h0,if_neg h1,if_neg h2]
  have n0:(k4 == 0)=false:=by simp[h0]
  have n1:(k4 == 1)=false:=by simp[h1]
  have n2:(k4 == 2)=false:=by simp[h2]
  clear HD;obtain⟨z0,c00,f00,c01,f01,c02,f02,c03,f03⟩:=HFZ.out.xf2
  go_wp2_with (fail)
  refine bodyPost_ret (v:=.agg #[.int .i64 6,.int .i64 (1+x1),.int .i64 (1+x2),.int .i64 (1+x3)]) (by simp[results,Tryz.results160,go_sem,z0,c00,c01,c02,c03,f00,f01,f02,f03]) rfl ?_
  rw[HR.out]
  refine⟨rfl,?_,?_⟩
  ·repeat (with_reducible first|exact HSZ.out|refine SrcG.set ?_ (by omega) _)
  ·repeat (with_reducible first|exact HFZ.out.f|refine Frm.ownSet ?_ (by omega) _)
theorem OwnS.base {w:World} {b b':Nat} {e:TypeId} {v:Value} {xs:List Int} (h:OwnS w b e v xs) (hb:b'≤b):OwnS w b' e v xs:=own_base h hb
theorem Cel.frmN {S:Nat→Prop} {W W':World} {g:Nat} {cs:List Value} (h:Cel W g cs) (hf:Frm S W W') (hn:¬S g):Cel W' g cs:=
 ⟨Nat.lt_of_lt_of_le h.lt hf.size,fun i x hx=>hf.cell' (h.cell i x hx) hn,fun i x hx=>(frm_froz hf h.lt hn).trans (h.froz i x hx)⟩
theorem SBy.below {w w':World} {C:Option Addr} {n:Nat} {bs:List Int} (h:SBy w C n bs) (hb:Below w.heap.size w w'):SBy w' C n bs:=
 h.frm (S:=fun _=>False) (Frm.of_below' _ hb) fun _ _ _ _ _ h=>h.elim
end Go.Proofs.YtkaiilmgemaljaaGreat

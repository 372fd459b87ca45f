/- Part of one proof. There are no conditions. -/
import Derived.Test.YtkaiilmgemaljaaGreatBE7
set_option maxHeartbeats 0
set_option linter.unusedVariables false
set_option linter.unusedSimpArgs false
set_option maxRecDepth 100000
namespace Go.Proofs.YtkaiilmgemaljaaGreat
open Go.RowKit Mo Ps Ra Ex
def dgO (o:Option (E×Int)):Int×Int×Int×Int:=match o with
 | none=>(0,0,0,3)
 | some (x,a)=>(x.num,(x.depth:Int),a,0)
noncomputable def dgR (p c h s m:Int) (bv:Bool) (own other:List Int) (v o:Int):Int×Int×Int×Int:=
 if codeD p c h s m bv own other v o=0 then dgO (dbl s.toNat ⟨m,bv⟩ own other (v,o)) else (0,0,0,codeD p c h s m bv own other v o)
def RetD4 (w:World) (r:Int×Int×Int×Int) (e:Ending) (w':World):Prop:=e = .returned (.tuple #[.agg #[.int .i64 r.1,.int .i64 r.2.1],.int .i64 r.2.2.1,.int .i64 r.2.2.2])∧Below w.heap.size w w'
theorem RetD4.mk' {w w':World} {r:Int×Int×Int×Int} {a b d c:Int} (hr:r=(a,b,d,c)) (hb:Below w.heap.size w w'):RetD4 w r (.returned (.tuple #[.agg #[.int .i64 a,.int .i64 b],.int .i64 d,.int .i64 c])) w':=by subst hr;exact⟨rfl,hb⟩
theorem dbR_dg (p c h s m:Int) (bv:Bool) (own other:List Int) (v o:Int):dbR p c h s m bv own other v o=((dgR p c h s m bv own other v o).1,(dgR p c h s m bv own other v o).2.1,(dgR p c h s m bv own other v o).2.2.2):=by
 unfold dbR dgR
 split
 ·cases dbl s.toNat ⟨m,bv⟩ own other (v,o) with
  | none=>rfl
  | some y=>rfl
 ·rfl
theorem zfN (p c h s m:Int) (bv j:Bool) (A B:Option Addr) (n k ca cb:Nat) (own other:List Int) (v o:Int) (w:World) (hA:SL w A n own) (hB:SL w B k other) (hca:n≤ca) (hcb:k≤cb):
  Calls Tryz.prog 125 #[.agg #[.int .i64 p,.int .i64 c,.int .i64 h,.int .i64 s],.agg #[.int .i64 m,.bool bv,.bool j],.slice A n ca,.slice B k cb,.agg #[.int .i64 v,.int .i64 o]] w (RetD4 w (dgR p c h s m bv own other v o)):=by
 have HF0:Hid (Fr w ((((w.alloc (.cells #[.int .i64 p,.int .i64 c,.int .i64 h,.int .i64 s] 25)).alloc (.cells #[.int .i64 m,.bool bv,.bool j] 53)).alloc (.cells #[.int .i64 v,.int .i64 o] 55)).alloc (.cells #[.int .i64 0,.int .i64 0] 35)) [[.int .i64 p,.int .i64 c,.int .i64 h,.int .i64 s],[.int .i64 m,.bool bv,.bool j],[.int .i64 v,.int .i64 o],[.int .i64 0,.int .i64 0]]):=((((Fr.start w).allocT (by simp) _ _).allocT (by simp) _ _).allocT (by simp) _ _).allocT (by simp) _ _
 have HA0:=h_ (hA.below HF0.out.b);have HB0:=h_ (hB.below HF0.out.b);have HAL:=h_ hA.1;have HBL:=h_ hB.1;have CK:=h_ (l17Both_any p c h s m bv j A B n k ca cb own other v o _ HA0.out HB0.out);clear hA hB
 by_cases hcm:codeM p c h s m own other v o true=0
 ·obtain⟨hcl,hz1,hz2⟩:=zex hcm
  rw[hcm]at CK;obtain⟨hv,hr,hp1,hp2,hcu,_,hgi⟩:=zci hcl;have hvv:=zak hv;obtain⟨K,hK,rfl⟩:=zbL hr
  obtain⟨c',rfl⟩:∃c':Nat,c=c':=⟨c.toNat,by omega⟩
  obtain⟨h',rfl⟩:∃h':Nat,h=h':=⟨h.toNat,by omega⟩
  obtain⟨s',rfl⟩:∃s':Nat,s=s':=⟨s.toNat,by omega⟩
  rw[zdq hK]at hgi;obtain⟨hN,_⟩:=zeu hgi;have HP1:=h_ (zba hp1);have HP2:=h_ (zba hp2);have hcb0:=zdQ hcu
  have hnh:h'=n:=by rw[← HAL.out];exact (HP1.out.1).symm
  have hmh:h'=k:=by rw[← HBL.out];exact (HP2.out.1).symm
  subst hnh;subst hmh
  have CNEW:=h_ fun (W:World)=>l17New_any p c' h' s' K bv j W hv hK hgi
  have hcv:=hcb0.v1 hK
  have MA0:=h_ fun (W:World)=>zay (two K) bv j v o W (by have:=hcv.1;simp only at this;omega) (by have:=hcv.2.1;simp only at this;omega)
  have HCD:Hid (codeD p c' h' s' (two K) bv own other v o=if may ⟨two K,bv⟩ (v,o)=true then 0 else 5):=by unfold Hid codeD;rw[if_pos hcm]
  rcases hmay:may ⟨two K,bv⟩ (v,o) with _|_
  ·have HWR:Hid (dgR p c' h' s' (two K) bv own other v o=(0,0,0,5)):=by
    unfold Hid dgR
    rw[HCD.out,hmay];rfl
   rw[hmay]at MA0;clear hcm hcl hv hr hp1 hp2 hcu hvv HAL HBL HCD hcv CNEW;generalize dgR p c' h' s' (two K) bv own other v o=rr at *
   go_enter Tryz.func125,Tryz.ntmps125
   go_wp2_with (fail)
   refine CK.out.mono ?_
   rintro e w1 ⟨rfl,hb1⟩
   have HFX:=h_ (HF0.out.below hb1);have HAX:=h_ (HA0.out.below hb1);have HBX:=h_ (HB0.out.below hb1);clear CK hb1 HF0 HA0 HB0;obtain⟨z0,c00,f00,c01,f01,c02,f02,c03,f03,z1,c10,f10,c11,f11,c12,f12,z2,c20,f20,c21,f21,z3,c30,f30,c31,f31⟩:=HFX.out.xf9
   go_wp2_with (fail)
   clear z0 c00 f00 c01 f01 c02 f02 c03 f03 z1 c10 f10 c11 f11 c12 f12 z2 c20 f20 c21 f21 z3 c30 f30 c31 f31
   refine (MA0.out _).mono ?_
   rintro e wm ⟨rfl,hbm⟩
   replace HFX:=h_ (HFX.out.below hbm);clear hbm MA0;obtain⟨z0,c00,f00,c01,f01,c02,f02,c03,f03,z1,c10,f10,c11,f11,c12,f12,z2,c20,f20,c21,f21,z3,c30,f30,c31,f31⟩:=HFX.out.xf9
   go_wp2_with (fail)
   refine bodyPost_ret (v:=.tuple #[.agg #[.int .i64 0,.int .i64 0],.int .i64 0,.int .i64 5]) (by simp[results,Tryz.results125,go_sem,c30,c31,z3,f30,f31]) rfl (RetD4.mk' HWR.out ?_)
   repeat (first|exact HFX.out.b|refine stw ?_ (by omega)|refine alw ?_ (by omega))
  ·obtain⟨ov,hov⟩:∃ov,ov=dbl s' ⟨two K,bv⟩ own other (v,o):=⟨_,rfl⟩
   have HWR:Hid (dgR p c' h' s' (two K) bv own other v o=dgO ov):=by
    unfold Hid dgR;rw[HCD.out,hmay,hov]
    simp only[Int.toNat_natCast,if_true]
   have HALL:Hid (∀(t:WT),t.c=c'→t.h=h'→t.s=s'→t.K=K→t.bv=bv→t.Ok→∀W:World,TbI t false W→SQ t.S W A h' own→SQ t.S W B h' other→Calls Tryz.prog 195 #[.pointer (some ⟨t.bt,0,none⟩),.slice A h' ca,.slice B h' cb,.agg #[.int .i64 v,.int .i64 o]] W (fun e w'=>∃(x:E) (a:Int),e = .returned (.tuple #[.agg #[.int .i64 x.num,.int .i64 (x.depth:Int)],.int .i64 a])∧TbI t ov.isNone w'∧Frm t.S W w'∧(ov.isNone=false→ov=some (x,a)))):=by
    intro t e1 e2 e3 e4 e5 hok W hI h1 h2
    subst e1 e2 e3 e4 e5;rw[hov]
    refine (dblT_all t hok HP1.out HP2.out hz1 hcb0 hmay false A B ca cb W hI h1 hca h2 hcb).mono ?_
    rintro e w' ⟨x,a,rfl,_,h3,h4,h5⟩
    exact⟨x,a,rfl,h3,h4,h5⟩
   rw[hmay]at MA0;clear hcm hcl hv hr hp1 hp2 hcu hvv hov HAL HBL HCD hcv hmay;generalize dgR p c' h' s' (two K) bv own other v o=rr at *
   go_enter Tryz.func125,Tryz.ntmps125
   go_wp2_with (fail)
   refine CK.out.mono ?_
   rintro e w1 ⟨rfl,hb1⟩
   have HFX:=h_ (HF0.out.below hb1);have HAX:=h_ (HA0.out.below hb1);have HBX:=h_ (HB0.out.below hb1);clear CK hb1 HF0 HA0 HB0;obtain⟨z0,c00,f00,c01,f01,c02,f02,c03,f03,z1,c10,f10,c11,f11,c12,f12,z2,c20,f20,c21,f21,z3,c30,f30,c31,f31⟩:=HFX.out.xf9
   go_wp2_with (fail)
   clear z0 c00 f00 c01 f01 c02 f02 c03 f03 z1 c10 f10 c11 f11 c12 f12 z2 c20 f20 c21 f21 z3 c30 f30 c31 f31
   refine (MA0.out _).mono ?_
   rintro e wm ⟨rfl,hbm⟩
   replace HFX:=h_ (HFX.out.below hbm);replace HAX:=h_ (HAX.out.below hbm);replace HBX:=h_ (HBX.out.below hbm);clear hbm MA0;obtain⟨z0,c00,f00,c01,f01,c02,f02,c03,f03,z1,c10,f10,c11,f11,c12,f12,z2,c20,f20,c21,f21,z3,c30,f30,c31,f31⟩:=HFX.out.xf9
   go_wp2_with (fail)
   clear z0 c00 f00 c01 f01 c02 f02 c03 f03 z1 c10 f10 c11 f11 c12 f12 z2 c20 f20 c21 f21 z3 c30 f30 c31 f31
   refine (CNEW.out _).mono ?_
   rintro e w2 ⟨t,t1,t2,t3,t4,t5,t6,rfl,hok,hI,hlow,hlowr,hb2⟩
   have HC:=h_ (HALL.out t t2 t3 t4 t5 t6 hok w2 hI ((SQ.of_sl HAX.out hlow).below hb2) ((SQ.of_sl HBX.out hlow).below hb2));have HLOW:=h_ hlow;have HF3:=h_ (HFX.out.below hb2)
   have hz1:w.heap.size+4≤wm.heap.size:=by have:=HFX.out.z;simpa using this
   have hbt:=hI.ltB;clear t1 t2 t3 t4 t5 t6 hok hI hlow hlowr hb2 HAX HBX CNEW HALL HFX;obtain⟨z0,c00,f00,c01,f01,c02,f02,c03,f03,z1,c10,f10,c11,f11,c12,f12,z2,c20,f20,c21,f21,z3,c30,f30,c31,f31⟩:=HF3.out.xf9
   go_wp2_with (fail)
   clear z0 c00 f00 c01 f01 c02 f02 c03 f03 z1 c10 f10 c11 f11 c12 f12 z2 c20 f20 c21 f21 z3 c30 f30 c31 f31
   refine HC.out.mono ?_
   rintro e w3 ⟨⟨xn,xd⟩,ra,rfl,hI3,hf3,him⟩
   have HF4:Hid (Fr w w3 [[.int .i64 p,.int .i64 c',.int .i64 h',.int .i64 s'],[.int .i64 (two K),.bool bv,.bool j],[.int .i64 v,.int .i64 o],[.int .i64 0,.int .i64 0]]):=HF3.out.frm hf3 (fun k hk=>by have:=HLOW.out k hk;omega) (fun k hk=>by have:=HLOW.out k hk;simp;omega)
   have e11:=hI3.fa;have hbt3:=hI3.ltB;have hbt0:wm.heap.size≤t.bt:=HLOW.out _ (.inl rfl)
   have n1:¬t.bt=w3.heap.size:=by omega
   have n2:¬w3.heap.size=t.bt:=by omega
   have hz3:w.heap.size+4≤w3.heap.size:=by have:=HF4.out.z;simpa using this
   have n3:¬w3.heap.size=w.heap.size+1+1+1:=by omega
   have n4:¬w.heap.size+1+1+1=w3.heap.size:=by omega
   have n5:¬t.bt=w.heap.size+1+1+1:=by omega
   have n6:¬w.heap.size+1+1+1=t.bt:=by omega
   clear hf3 HF3 HC HLOW hI3 hbt
   rcases ov with _|y
   ·have HRR:Hid (rr=(0,0,0,3)):=HWR.out
    simp only[Option.isNone_none]at e11
    clear him;obtain⟨z0,c00,f00,c01,f01,c02,f02,c03,f03,z1,c10,f10,c11,f11,c12,f12,z2,c20,f20,c21,f21,z3,c30,f30,c31,f31⟩:=HF4.out.xf9
    go_wp2_with (fail)
    refine bodyPost_ret (v:=.tuple #[.agg #[.int .i64 0,.int .i64 0],.int .i64 0,.int .i64 3]) (by simp[results,Tryz.results125,go_sem,c30,c31,z3,f30,f31]) rfl (RetD4.mk' HRR.out ?_)
    repeat (first|exact HF4.out.b|refine stw ?_ (by omega)|refine alw ?_ (by omega))
   ·obtain rfl:y=(⟨xn,xd⟩,ra):=by have:=him rfl;injection this
    have HRR:Hid (rr=(xn,(xd:Int),ra,0)):=HWR.out
    simp only[Option.isNone_some]at e11
    clear him;obtain⟨z0,c00,f00,c01,f01,c02,f02,c03,f03,z1,c10,f10,c11,f11,c12,f12,z2,c20,f20,c21,f21,z3,c30,f30,c31,f31⟩:=HF4.out.xf9
    go_wp2_with (fail)
    refine bodyPost_ret (v:=.tuple #[.agg #[.int .i64 xn,.int .i64 (xd:Int)],.int .i64 ra,.int .i64 0]) (by simp[results,Tryz.results125,go_sem,c30,c31,z3,f30,f31]) rfl (RetD4.mk' HRR.out ?_)
    repeat (first|exact HF4.out.b|refine stw ?_ (by omega)|refine alw ?_ (by omega))
 ·have HWR:Hid (dgR p c h s m bv own other v o=(0,0,0,codeM p c h s m own other v o true)):=by
   have hd:codeD p c h s m bv own other v o=codeM p c h s m own other v o true:=by unfold codeD;rw[if_neg hcm]
   unfold Hid dgR;rw[hd,if_neg hcm]
  generalize codeM p c h s m own other v o true=kk at *
  have b0:(kk != 0)=true:=by simp[hcm]
  have b5:(kk == 0)=false:=by simp[hcm]
  clear hcm
  go_enter Tryz.func125,Tryz.ntmps125
  go_wp2_with (fail)
  refine CK.out.mono ?_
  rintro e w1 ⟨rfl,hb1⟩
  have HFX:=h_ (HF0.out.below hb1);have HAX:=h_ (HA0.out.below hb1);have HBX:=h_ (HB0.out.below hb1);clear CK hb1 HF0 HA0 HB0;obtain⟨z0,c00,f00,c01,f01,c02,f02,c03,f03,z1,c10,f10,c11,f11,c12,f12,z2,c20,f20,c21,f21,z3,c30,f30,c31,f31⟩:=HFX.out.xf9
  go_wp2_with (fail)
  refine bodyPost_ret (v:=.tuple #[.agg #[.int .i64 0,.int .i64 0],.int .i64 0,.int .i64 kk]) (by simp[results,Tryz.results125,go_sem,c30,c31,z3,f30,f31]) rfl (RetD4.mk' HWR.out ?_)
  repeat (first|exact HFX.out.b|refine stw ?_ (by omega)|refine alw ?_ (by omega))
theorem zef (p c h s m:Int) (bv j:Bool) (A B:Option Addr) (n k ca cb:Nat) (own other:List Int) (v o:Int) (w:World) (hA:SL w A n own) (hB:SL w B k other) (hca:n≤ca) (hcb:k≤cb):
  Calls Tryz.prog 46 #[.agg #[.int .i64 p,.int .i64 c,.int .i64 h,.int .i64 s],.agg #[.int .i64 m,.bool bv,.bool j],.slice A n ca,.slice B k cb,.agg #[.int .i64 v,.int .i64 o]] w (RetN w (dbR p c h s m bv own other v o)):=by
 have HF0:Hid (Fr w ((((w.alloc (.cells #[.int .i64 p,.int .i64 c,.int .i64 h,.int .i64 s] 25)).alloc (.cells #[.int .i64 m,.bool bv,.bool j] 53)).alloc (.cells #[.int .i64 v,.int .i64 o] 55)).alloc (.cells #[.int .i64 0,.int .i64 0] 35)) [[.int .i64 p,.int .i64 c,.int .i64 h,.int .i64 s],[.int .i64 m,.bool bv,.bool j],[.int .i64 v,.int .i64 o],[.int .i64 0,.int .i64 0]]):=((((Fr.start w).allocT (by simp) _ _).allocT (by simp) _ _).allocT (by simp) _ _).allocT (by simp) _ _
 have HA0:=h_ (hA.below HF0.out.b);have HB0:=h_ (hB.below HF0.out.b);have HAL:=h_ hA.1;have HBL:=h_ hB.1;have CK:=h_ (zfN p c h s m bv j A B n k ca cb own other v o _ HA0.out HB0.out hca hcb);rw[dbR_dg];clear hA hB
 rcases hdg:dgR p c h s m bv own other v o with⟨a1,a2,a3,a4⟩
 rw[hdg]at CK;clear hdg
 go_enter Tryz.func46,Tryz.ntmps46
 go_wp2_with (fail)
 refine CK.out.mono ?_
 rintro e w1 ⟨rfl,hb1⟩
 have HFX:=h_ (HF0.out.below hb1)
 have hz4:w.heap.size+4≤w1.heap.size:=by have:=HFX.out.z;simpa using this
 clear CK hb1 HF0 HA0 HB0
 have n1:¬w1.heap.size=w.heap.size+1+1+1:=by omega
 have n2:¬w.heap.size+1+1+1=w1.heap.size:=by omega
 obtain⟨z0,c00,f00,c01,f01,c02,f02,c03,f03,z1,c10,f10,c11,f11,c12,f12,z2,c20,f20,c21,f21,z3,c30,f30,c31,f31⟩:=HFX.out.xf9
 go_wp2_with (fail)
 refine bodyPost_ret (v:=.tuple #[.agg #[.int .i64 a1,.int .i64 a2],.int .i64 a4]) (by simp[results,Tryz.results46,go_sem,c30,c31,z3,f30,f31]) rfl (RetN.mk' rfl ?_)
 repeat (first|exact HFX.out.b|refine stw ?_ (by omega)|refine alw ?_ (by omega))
end Go.Proofs.YtkaiilmgemaljaaGreat

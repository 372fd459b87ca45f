/- Part of one proof. There are no conditions. -/
import Derived.Test.YtcmeoenkgmghkaaGreatPY12
set_option maxHeartbeats 0
set_option linter.unusedVariables false
set_option linter.unusedSimpArgs false
set_option maxRecDepth 100000
open Go.Value renaming int->a,slice->r
open Go.IntKind renaming i64->B
open Go.Obj renaming cells->D
open Go.Ending renaming returned->F
namespace Go.Proofs.YtcmeoenkgmghkaaGreat
open Go.RowKit Pl
def PlQ(lo m:Nat)(l:List Bd):RP:=fun v W=>∃A k,v=r A l.length k/\PLs (fun k=>k<lo) W m A l.length l/\l.length<=k
theorem f9(lo m:Nat)(l:List Bd):Stb (PlQ lo m l):=fun _ _ _ ⟨A,k,h1,h2,h3⟩ hb=>⟨A,k,h1,h2.below hb,h3⟩
theorem Tryz.infoPS:(Tryz.prog.info? 79).map (fun i=>(i.zero,i.size,i.bytes))=some (some (r none 0 0),1,24):=by kernel_rfl
def RwS(S:Nat->Prop)(w:World)(m base:Nat)(v:Value)(k:Nat)(row:List Bd):Prop:=∃cs A c,w.ownsRow base 79 1 v (k+1) cs/\cs.getD k undef=r A row.length c/\row.length<=c/\PLs (wth S v) w m A row.length row/\∀k,v.ownBlock=some k->¬S k
theorem RwS.up{S:Nat->Prop}{w:World}{m m' base:Nat}{v:Value}{k:Nat}{row:List Bd}(h:RwS S w m base v k row)(hm:m<=m'):RwS S w m' base v k row:=let ⟨cs,A,c,h1,h2,h3,h4,h5⟩:=h;⟨cs,A,c,h1,h2,h3,h4.up hm,h5⟩
def RetSq(w:World)(m:Nat)(row:List Bd)(k:Nat)(fl:Bool)(e:Ending)(w':World):Prop:=∃g c A c9,e=F (.tuple #[r (some ⟨g,0,none⟩) (k+1) c,.bool fl])/\k+1<=c/\w.heap.size<=g/\g<w'.heap.size/\w'.cell? ⟨g,k,none⟩=some (r A row.length c9)/\row.length<=c9/\PLs (fun k=>k<w.heap.size) w' m A row.length row/\Below w.heap.size w w'
theorem RwS.below{S:Nat->Prop}{w w':World}{m base:Nat}{v:Value}{k:Nat}{row:List Bd}(h:RwS S w m base v k row)(hb:Below w.heap.size w w'):RwS S w' m base v k row:=let ⟨cs,A,c,h1,h2,h3,h4,h5⟩:=h;⟨cs,A,c,own_below h1 hb,h2,h3,h4.below hb,h5⟩
theorem RwS.ret{w wr:World}{m base:Nat}{v:Value}{k:Nat}{row:List Bd}{fl:Bool}(h:RwS (fun k=>k<base) wr m base v k row)(hb:w.heap.size<=base)(hw:Below w.heap.size w wr):RetSq w m row k fl (F (.tuple #[v,.bool fl])) wr:=by
 obtain⟨cs,A,c,h1,h2,h3,h4,-⟩:=h
 obtain⟨A9,c9,hv,hs,hc⟩:=bp (S:=fun _=>False) h1 (fun _ _ h=>h) (by omega)
 obtain⟨b,off,hA,hlt,_,hcell⟩:=hs.2 (by omega)
 have hown:v.ownBlock=some b:=by rw[hv,hA];rfl
 obtain⟨hb1,-⟩:=World.ownsRow.lt h1 b hown
 have hoff:off=0:=by
  rcases h1.2 with⟨h8,h9⟩|⟨g,cap,cur,h9,_⟩
  ·rw[hv,hA]at h8;simp at h8
  ·rw[hv,hA]at h9;simp at h9;exact h9.1.2
 subst hoff
 have hc9:=hcell k (by omega)
 rw[h2,Nat.zero_add]at hc9
 refine⟨b,c9,A,c,by rw[hv,hA],hc,by omega,hlt,hc9,h3,h4.set fun k hk=>.inl (.inl (by show k<base;have:k<w.heap.size:=hk;omega)),hw⟩
def dsSq:Nat->Nat
 | 0=>24
 | 1=>25
 | 2=>26
 | 3=>27
 | 4=>28
 | 5=>29
 | 6=>30
 | 7=>31
 | 8=>32
 |_=>0
theorem jK(P h C:Nat)(c s:Int)(A1 A2 Ao:Option Addr)(n1 c1 n2 c2 no co:Nat)(own other:List Int)(ds:List Nat)(w:World)(h1:SL w A1 n1 own)(h2:SL w A2 n2 other)(hb:Sd P C (own,other))(hC:C<=255)(hP:P<=24)(hh:h<=1000)
  (ho:SL w Ao no (ds.map fun(d:Nat)=>(d:Int))) (hd:∀d∈ds,1<=d/\d<=1000) (hl4:ds.length<=4):
  Calls Tryz.prog 204 #[(.agg #[a B (P:Int),a B c,a B (h:Int),a B s]),.agg #[r A1 n1 c1,r A2 n2 c2],r Ao no co] w (RetSq w 4 (longP P h [(own,other)] ds).1 (longP P h [(own,other)] ds).2 (fineP P h [(own,other)] ds)):=by
 obtain⟨j0,hj,jz0,jz1,jz2⟩:=info_parts Tryz.infoPS
 have hno:ds.length=no:=by have:=ho.1;simpa using this
 have HDS:Hid (∀j,j<no->1<=ds.getD j 0/\ds.getD j 0<=1000):=fun j hj=>hd _ (ak ds 0 (by omega))
 have HDC:Hid (∀j,(ds.map fun(d:Nat)=>(d:Int)).getD j 0=((ds.getD j 0:Nat):Int)):=fun j=>by
  simp only[List.getD_eq_getElem?_getD,List.getElem?_map]
  cases ds[j]?<;>rfl
 have HDR:Hid (∀j,j<no->ds.drop j=ds.getD j 0::ds.drop (j+1)):=fun j hj=>by
  rw[List.drop_eq_getElem_cons (by omega)]
  congr 1
  simp[List.getD,show j<ds.length by omega]
 have HOD:=h_ fun(W:World) (hw:Below w.heap.size w W)=>ho.below hw
 have e1:n1=P+1:=by rw[<-h1.1];exact hb.len1
 have e2:n2=P+1:=by rw[<-h2.1];exact hb.len2
 have CB:=h_ fun(W:World) (hw:Below w.heap.size w W)=>cj A1 A2 n1 c1 n2 c2 own other W (h1.below hw) (h2.below hw) (by omega) (by omega) (by omega) (by omega)
 have HSB:=h_ hb
 have hno4:no<=4:=by omega
 have HEND:Hid (ds.drop no=[]):=by unfold Hid;rw[<-hno,List.drop_length]
 have HF:Hid (Fr w ((w.alloc (D #[a B (P:Int),a B c,a B (h:Int),a B s] 33)).alloc (D #[r A1 n1 c1,r A2 n2 c2] 35)) [[a B (P:Int),a B c,a B (h:Int),a B s],[r A1 n1 c1,r A2 n2 c2]]):=((Fr.start w).allocT (by simp) _ _).allocT (by simp) _ _
 clear h1 h2 hb ho hd e1 e2 hno hl4
 go_enter Tryz.func204,Tryz.ntmps204
 go_wp2_with (fail)
 refine(CB.out _ HF.out.b).mono ?_
 rintro e w1 ⟨g1,k1,g2,k2,rfl,ho1,ho2,_,hb1⟩
 have hz0:((w.alloc (D #[a B (P:Int),a B c,a B (h:Int),a B s] 33)).alloc (D #[r A1 n1 c1,r A2 n2 c2] 35)).heap.size=w.heap.size+2:=by simp
 rw[hz0]at ho1 ho2;have HF1:=h_ (HF.out.below hb1);have hz1:w.heap.size+2<=w1.heap.size:=HF1.out.z;have HFA:Hid (Fr w ((w1.alloc (D #[r none 0 0,r (some ⟨g1,0,none⟩) own.length k1,r (some ⟨g2,0,none⟩) other.length k2] 85)).alloc (D #[r (some ⟨w1.heap.size,0,none⟩) 1 1] 79)) [[a B (P:Int),a B c,a B (h:Int),a B s],[r A1 n1 c1,r A2 n2 c2]]):=(HF1.out.alloc _).alloc _
 have HRW:Hid (RwS (fun k=>k<w.heap.size+2) ((w1.alloc (D #[r none 0 0,r (some ⟨g1,0,none⟩) own.length k1,r (some ⟨g2,0,none⟩) other.length k2] 85)).alloc (D #[r (some ⟨w1.heap.size,0,none⟩) 1 1] 79)) 0 (w.heap.size+2) (r (some ⟨w1.heap.size+1,0,none⟩) 1 1) 0 [(own,other)]):=by
  have q1:=OPl.made (S:=fun k=>k<w.heap.size+2) (m:=0) (e:=85) (cs:=[r none 0 0,r (some ⟨g1,0,none⟩) own.length k1,r (some ⟨g2,0,none⟩) other.length k2]) (bs:=[(own,other)]) w1 hz1 (fun k hk h9=>by have h9:k<w.heap.size+2:=h9;omega) (PEs.one ⟨StV.nil_ _ _ _,PV.own ho1 (fun k hk h9=>by have h9:k<w.heap.size+2:=h9;omega),PV.own ho2 (fun k hk h9=>by have h9:k<w.heap.size+2:=h9;omega)⟩) (by simp[maxLen])
  obtain⟨A9,c9,hv9,hp9,hc9⟩:=q1.read;injection hv9 with hA9 _ hc9';subst hA9 hc9'
  have hz9:(w1.alloc (D #[r none 0 0,r (some ⟨g1,0,none⟩) own.length k1,r (some ⟨g2,0,none⟩) other.length k2] 85)).heap.size=w1.heap.size+1:=by simp
  have q2:=World.ownsRow_lit (w1.alloc (D #[r none 0 0,r (some ⟨g1,0,none⟩) own.length k1,r (some ⟨g2,0,none⟩) other.length k2] 85)) #[r (some ⟨w1.heap.size,0,none⟩) 1 1] 1 (base:=w.heap.size+2) (e:=79) (size:=1) (by rw[hz9];omega) (by decide) (by simp)
  rw[hz9]at q2
  refine⟨_,_,1,q2,rfl,by simp,?_,fun k hk h9=>?_⟩
  ·refine (hp9.set fun k hk=>?_).alloc _
   rcases hk with hk|hk
   ·exact .inl hk
   ·have h8:some (w1.heap.size+1)=some k:=hk
    injection h8 with h8
    exact .inr (by rw[hz9];omega)
  ·have h8:some (w1.heap.size+1)=some k:=hk
   injection h8 with h8;have h9:k<w.heap.size+2:=h9
   omega
 have HSD0:Hid (∀b∈[(own,other)],Sd P C b):=fun b hb=>by rw[List.mem_singleton.1 hb];exact HSB.out
 have HGL:Hid ((longP P h [(own,other)] ds).1=(longP P h [(own,other)] (ds.drop 0)).1/\(longP P h [(own,other)] ds).2=(longP P h [(own,other)] (ds.drop 0)).2+0):=⟨rfl,rfl⟩;have HGF:Hid (fineP P h [(own,other)] ds=(true&&fineP P h [(own,other)] (ds.drop 0))):=rfl;clear ho1 ho2 hb1 HF HF1 CB hz0;generalize (longP P h [(own,other)] ds).1=R1 at *;generalize (longP P h [(own,other)] ds).2=R2 at *;generalize fineP P h [(own,other)] ds=R3 at *
 go_wp2_with (fail)
 go_loopw [8,9,20] (fun v8 v9 v20 wr=>∃(j:Nat) (row:List Bd) (fl:Bool),j<=no/\v20=a B j/\v9= .bool fl/\(∃vx,vx=v8/\Hid (RwS (fun k=>k<w.heap.size+2) wr j (w.heap.size+2) vx j row))/\Hid (∀b∈row,Sd P C b)/\Hid (row.length<=25^j)/\Hid (R1=(longP P h row (ds.drop j)).1/\R2=(longP P h row (ds.drop j)).2+j)/\Hid (R3=(fl&&fineP P h row (ds.drop j)))/\Hid (Fr w wr [[a B (P:Int),a B c,a B (h:Int),a B s],[r A1 n1 c1,r A2 n2 c2]])) (fun _ _ v20 _=>no-(intOf v20).toNat)
 case atStart=>exact⟨0,[(own,other)],true,by omega,rfl,rfl,⟨_,rfl,HRW.out⟩,HSD0.out,Nat.le_refl 1,HGL.out,HGF.out,HFA.out⟩
 case round=>
  clear HRW HSD0 HGL HGF HFA;obtain⟨j,row,fl,hjn,rfl,rfl,⟨vx,rfl,HR⟩,HS,HL,HLP,HFP,HF⟩:=hrel
  by_cases hlt:j<no
  focus
   have hji:(j:Int)<(no:Int):=by omega
   obtain⟨cs,A,ca,r1,r2,-,r4,r5⟩:=HR.out
   obtain⟨Ar,cb,hvx,hsr,-⟩:=bp (S:=fun _=>False) r1 (fun _ _ h=>h) (by omega)
   obtain⟨gb,off,hAr,-,_,hcell⟩:=hsr.2 (by omega)
   have hoff:off=0:=by
    rcases r1.2 with⟨h8,h9⟩|⟨g,cap,cur,h9,_⟩
    ·rw[hvx,hAr]at h8;simp at h8
    ·rw[hvx,hAr]at h9;simp at h9;exact h9.1.2
   subst hoff hAr hvx
   have hxc:=hcell j (by omega)
   rw[r2,Nat.zero_add]at hxc;have HXC:=h_ hxc;obtain⟨N,hN⟩:∃N,N=j+1:=⟨_,rfl⟩
   have hN1:N<=5/\1<=N:=by omega
   have HN2:((N:Int)-1).toNat=j/\(0:Int)<=(N:Int)-1/\(N:Int)-1<(N:Int):=by omega
   have HN:=h_ hN
   have HROWo:Hid (wr.ownsRow (w.heap.size+2) 79 1 (r (some ⟨gb,0,none⟩) N cb) N cs):=by unfold Hid;rw[hN];exact r1
   rw[<-hN]
   have HVB:Hid (∀k,Value.ownBlock (r (some ⟨gb,0,none⟩) N cb)=some k->w.heap.size+2<=k/\k<wr.heap.size):=fun k hk=>World.ownsRow.lt HROWo.out k hk
   obtain⟨d,hdd⟩:∃d,d=ds.getD j 0:=⟨_,rfl⟩;obtain⟨hd1,hd2⟩:=HDS.out j hlt;rw[<-hdd]at hd1 hd2
   obtain⟨bo,oo,rfl,hbo,hco⟩:=(HOD.out wr HF.out.b).2 (by omega)
   have y0:=hco j hlt;rw[HDC.out,<-hdd]at y0
   have HP4:Hid (PLs (fun _=>False) wr j A row.length row):=r4.set fun k hk=>hk.elim
   have HRL:Hid (row.length<=15625):=Nat.le_trans HL.out (Nat.le_trans (Nat.pow_le_pow_right (by omega) (show j<=3 by omega)) (by decide))
   have CG:Hid (∀W:World,Below wr.heap.size wr W->Calls Tryz.prog 221 #[(.agg #[a B (P:Int),a B c,a B (h:Int),a B s]),r A row.length ca,a B (d:Int)] W (RetPl W (j+1) (nextB P h d row))):=fun W hw=>goOn_any P h d C j c s A row.length ca row W (HP4.out.below hw) HS.out hC (by omega) hd1 hd2 hh (by
    have h9:=Nat.mul_le_mul HRL.out (show P+1<=25 by omega)
    omega) (by omega)
   have HDL:Hid (ds.drop j=d::ds.drop (j+1)):=by rw[hdd];exact HDR.out j hlt
   have hz2:w.heap.size+2<=wr.heap.size:=HF.out.z;clear hN r1 r2 r4 r5 hsr hcell hxc hdd hco HP4
   go_wp2_with (fail)
   refine w_ 9 (fun _=>false) dsSq [Eqv (.agg #[a B (P:Int),a B c,a B (h:Int),a B s]),Eqv (r (some ⟨gb,0,none⟩) N cb),Eqv (r (some ⟨gb,0,none⟩) N cb),Eqv (a B (N:Int)),Eqv ((a B ((N:Int)-1))),Eqv (.pointer (some ⟨gb,j,none⟩)),Eqv (r A row.length ca),Eqv (a B (d:Int)),PlQ wr.heap.size (j+1) (nextB P h d row)] (by repeat (first|exact AllStb.nil|refine AllStb.cons (by first|exact aY _|exact f9 _ _ _) ?_)) (fun i o' _ hX=>by cases hX) ?_ ?_
   ·intro i o hi hX ho a' W hW hIW hfar hdep
    have e3:a'.tmps.getD 3 undef=(.pointer (some ⟨w.heap.size,0,none⟩)):=(fr hfar 3).trans rfl
    have e8:a'.tmps.getD 8 undef=(r (some ⟨gb,0,none⟩) N cb):=(fr hfar 8).trans rfl
    have e11:a'.tmps.getD 11 undef=(a B (d:Int)):=(fr hfar 11).trans rfl
    have hi8:=i_8 hi
    clear hfar hX hi
    rcases hi8 with rfl|rfl|rfl|rfl|rfl|rfl|rfl|rfl|rfl
    all_goals (simp at ho;subst ho)
    ·have y0:=(HF.out.below hW).c0 0 rfl
     have y1:=(HF.out.below hW).c0 1 rfl;have y2:=(HF.out.below hW).c0 2 rfl;have y3:=(HF.out.below hW).c0 3 rfl
     refine il ?_;simp only[execOp,Act.eval,e3];go_simp
    ·refine il ?_;simp only[execOp,Act.eval,e8];go_simp
    ·refine il ?_;simp only[execOp,Act.eval,e8];go_simp
    ·have d1:a'.tmps.getD 26 undef=_:=dp hdep 2
     refine il ?_;simp only[execOp,Act.eval,d1];go_simp
    ·have d1:a'.tmps.getD 27 undef=_:=dp hdep 3
     refine il ?_;simp only[execOp,Act.eval,d1];go_simp;first|done|(simp[IntKind.wrap,IntKind.bits,IntKind.signed];omega)
    ·have d1:a'.tmps.getD 25 undef=_:=dp hdep 1
     have d2:a'.tmps.getD 28 undef=_:=dp hdep 4
     refine il ?_;simp only[execOp,Act.eval,d1,d2];go_simp;first|done|(intro hq9;exfalso;omega)
    ·have d1:a'.tmps.getD 29 undef=_:=dp hdep 5
     have y0:=(Frm.of_below hW).cell' HXC.out id
     refine il ?_;simp only[execOp,Act.eval,d1];go_simp
    ·refine il ?_;simp only[execOp,Act.eval,e11];go_simp
    ·have d1:a'.tmps.getD 24 undef=_:=dp hdep 0
     have d2:a'.tmps.getD 30 undef=_:=dp hdep 6
     have d3:a'.tmps.getD 31 undef=_:=dp hdep 7
     refine .inr ⟨221,#[(.agg #[a B (P:Int),a B c,a B (h:Int),a B s]),(r A row.length ca),(a B (d:Int))],by simp only[execOp,Act.eval,d1,d2,d3];go_simp,?_⟩
     refine(CG.out W hW).mono ?_
     rintro e W' ⟨A9,k9,rfl,hp9,hk9,hb'⟩
     exact⟨_,rfl,hb',trivial,A9,k9,rfl,hp9.set (fun k hk=>.inl (Nat.lt_of_lt_of_le hk (Below.size hW))),hk9⟩
   intro v W2 hW hIW hg
   have g0:v 0=_:=gq hg 0
   have g1:v 1=_:=gq hg 1
   have g2:v 2=_:=gq hg 2
   have g3:v 3=_:=gq hg 3
   have g4:v 4=_:=gq hg 4
   have g5:v 5=_:=gq hg 5
   have g6:v 6=_:=gq hg 6
   have g7:v 7=_:=gq hg 7
   obtain⟨A9,k9,g8,hp9,hk9⟩:PlQ wr.heap.size (j+1) (nextB P h d row) (v 8) W2:=hg 8 (by omega)
   simp only[List.drop_succ_cons,List.drop_zero,putV,dsSq,g0,g1,g2,g3,g4,g5,g6,g7,g8,Act.put]
   clear g0 g1 g2 g3 g4 g5 g6 g7 g8 hg hIW;have HB2:=h_ hW;have HF2:=h_ (HF.out.below hW);clear hW HF CG
   have HLQ:Hid ((nextB P h d row).length<=25^(j+1)):=by
    have q1:=di (p:=P) (h:=h) (die:=d) (k:=P+1) (bs:=row) (out:=[]) (fun _ _=>cO)
    rw[List.length_nil,Nat.zero_add]at q1
    have q2:=Nat.mul_le_mul HL.out (show P+1<=25 by omega)
    unfold Hid;rw[Nat.pow_succ]
    exact Nat.le_trans q1 q2
   have HLQ2:Hid ((nextB P h d row).length<=390625):=Nat.le_trans HLQ.out (Nat.le_trans (Nat.pow_le_pow_right (by omega) (show j+1<=4 by omega)) (by decide))
   have HS2:Hid (∀b∈nextB P h d row,Sd P C b):=jo hd1 HS.out;have HLP9:=HLP.out;rw[HDL.out]at HLP9;have HFP9:=HFP.out;rw[HDL.out]at HFP9
   have HR2:Hid (RwS (fun k=>k<w.heap.size+2) W2 j (w.heap.size+2) (r (some ⟨gb,0,none⟩) N cb) j row):=by
    have h9:=HR.out.below HB2.out;rw[<-HN.out]at h9
    exact h9
   have HROW2:=h_ (own_below HROWo.out HB2.out);clear HR HROWo;obtain⟨nl,hnl⟩:∃nl,nl=(nextB P h d row).length:=⟨_,rfl⟩;rw[<-hnl]at hp9 hk9;have HNL:=h_ hnl
   have hnl6:nl<=390625:=by rw[hnl];exact HLQ2.out
   have HP9:Hid (PLs (fun k=>k<wr.heap.size) W2 (j+1) A9 nl (nextB P h d row)):=hp9
   rw[<-hnl];clear hp9
   by_cases hE:nextB P h d row=[]
   ·have hn0:nl=0:=by rw[hnl,hE];rfl
    have HRE:Hid (RetSq w 4 R1 R2 R3 (F (.tuple #[(r (some ⟨gb,0,none⟩) N cb),.bool fl])) W2):=by
     unfold longP at HLP9;rw[if_pos hE]at HLP9;unfold fineP at HFP9;rw[if_pos hE,hE]at HFP9
     have q1:R2=j:=by have:=HLP9.2;simp at this;omega
     have q2:R3=fl:=by simpa using HFP9
     rw[HLP9.1,q1,q2]
     exact(HR2.out.up (by omega)).ret (by omega) HF2.out.b
    have b0:((nl:Int)==0)=true:=by simp[hn0]
    clear hn0 hnl HLP9 HFP9 hE HLQ HLQ2 HROW2 HR2
    go_wp2_with (fail)
    go_ret2
    exact HRE.out
   focus
    have hn0:¬nl=0:=by rw[hnl];intro h9;exact hE (List.eq_nil_of_length_eq_zero h9)
    have b0:((nl:Int)==0)=false:=by simp;omega
    unfold longP at HLP9;rw[if_neg hE]at HLP9;unfold fineP at HFP9;rw[if_neg hE,<-hnl]at HFP9
    have HLP2:Hid (R1=(longP P h (nextB P h d row) (ds.drop (j+1))).1/\R2=(longP P h (nextB P h d row) (ds.drop (j+1))).2+(j+1)):=⟨HLP9.1,by rw[HLP9.2];simp only;omega⟩
    have HFP2:Hid (R3=(fl&&(decide (nl<=3000)&&fineP P h (nextB P h d row) (ds.drop (j+1))))):=HFP9;have HL2:Hid ((nextB P h d row).length<=25^(j+1)):=HLQ.out;have HROW:Hid ((W2.alloc (D #[r A9 nl k9] 79)).ownsRow (w.heap.size+2) 79 1 (r (some ⟨gb,0,none⟩) N cb) N cs):=World.ownsRow.alloc HROW2.out _;have HNW:Hid (∀j u,[Value.slice A9 nl k9][j]? =some u->(W2.alloc (D #[r A9 nl k9] 79)).cell? ((⟨W2.heap.size,0,none⟩:Addr).add j)=some u):=one_new W2 (r A9 nl k9) 79;have hz3:=HB2.out.size;have HK9:=h_ hk9;clear hnl HLP9 HFP9 hE hn0 HLQ HLQ2 HROW2 HR2 HLP HFP HL HS HDL hk9
    by_cases hle:nl<=3000
    focus
     have hli:(nl:Int)<=3000:=by omega
     rcases fl with _|_
     focus
      refine ?za
     rotate_left
     focus
      refine ?zb
    rotate_left 2
    focus
     have hli:¬(nl:Int)<=3000:=by omega
     rcases fl with _|_
     focus
      refine ?zd
     rotate_left
     focus
      refine ?zc
  rotate_left 4
  ·have hji:¬(j:Int)<(no:Int):=by omega
   have HRE:Hid (RetSq w 4 R1 R2 R3 (F (.tuple #[vx,.bool fl])) wr):=by
    have HLP9:=HLP.out;have HFP9:=HFP.out
    rw[show ds.drop j=[] by rw[show j=no by omega];exact HEND.out]at HLP9 HFP9
    have q1:R2=j:=by have:=HLP9.2;unfold longP at this;simp at this;omega
    have q2:R3=fl:=by unfold fineP at HFP9;simpa using HFP9
    have q3:R1=row:=HLP9.1;rw[q3,q1,q2]
    exact(HR.out.up (by omega)).ret (by omega) HF.out.b
   clear HR HLP HFP HL HS
   go_wp2_with (fail)
   go_ret2
   exact HRE.out
  case' za|zb|zc|zd=>
   go_wp2_with (at_builtin;(refine wpList_append_own_at _ rfl _ _ 193 rfl (w.heap.size+2) 79 j0 (r none 0 0) 1 24 Tryz.underlying193 hj jz0 jz1 jz2 rfl (by decide) _ _ _ rfl HROW.out ⟨W2.heap.size,0,none⟩ 1 1 [r A9 nl k9] rfl rfl HNW.out (aI _ _ _) (by unfold maxLen;omega) (by omega) (by simp;omega) ?_);intro v' w6 hown hgrow _ hat)
   have HF6:Hid (Fr w w6 [[a B (P:Int),a B c,a B (h:Int),a B s],[r A1 n1 c1,r A2 n2 c2]]):=(HF2.out.alloc _).frm (Frm.of_grown hgrow) (fun k hk=>by have:=HVB.out k hk.symm;omega) (fun k hk=>by have:=HVB.out k hk.symm;simp;omega)
   have HR6:Hid (RwS (fun k=>k<w.heap.size+2) w6 (j+1) (w.heap.size+2) v' (j+1) (nextB P h d row)):=by
    refine⟨cs++[r A9 nl k9],A9,k9,by rw[<-HN.out];exact hown,?_,by rw[<-HNL.out];exact HK9.out,?_,fun k hk h9=>by have:=(World.ownsRow.lt hown k hk).1;have h9:k<w.heap.size+2:=h9;omega⟩
    ·rw[aK _ _ _ (by have:=HROW.out.1;have:=HN.out;omega),show j+1-cs.length=0 by have:=HROW.out.1;have:=HN.out;omega]
     rw[HNL.out];rfl
    ·have h1:=(HP9.out.alloc (D #[r A9 nl k9] 79)).set (S':=fun k=>wth (fun k=>k<w.heap.size+2) (r (some ⟨gb,0,none⟩) N cb) k\/wth (fun k=>k<w.heap.size+2) v' k) fun k hk=>by
      rcases hk with h9|h9
      ·rcases h9 with h9|h9
       ·exact .inl (by have:k<w.heap.size+2:=h9;omega)
       ·exact .inl (HVB.out k h9).2
      ·rcases h9 with h9|h9
       ·exact .inl (by have:k<w.heap.size+2:=h9;omega)
       ·rcases hat with h8|h8
        ·exact .inl (HVB.out k (h8.symm.trans h9)).2
        ·rw[h8]at h9;injection h9 with h9;exact .inr (by omega)
     rw[<-HNL.out]
     exact(h1.frm ((du hgrow).mono fun k hk=>.inl hk)).set fun k hk=>.inl (.inr hk)
   clear hown hgrow hat HROW HNW HP9 HF2
  case zb=>
   exact⟨⟨j+1,nextB P h d row,true,by omega,by go_num,rfl,⟨v',rfl,HR6⟩,HS2,HL2,HLP2,(by have h9:=HFP2.out;simp only[Bool.true_and,decide_eq_true hle,Bool.and_true]at h9;exact h9),HF6⟩,by simp[intOf];omega⟩
  case zc=>
   exact⟨⟨j+1,nextB P h d row,false,by omega,by go_num,rfl,⟨v',rfl,HR6⟩,HS2,HL2,HLP2,(by have h9:=HFP2.out;simp only[Bool.true_and,decide_eq_false hle,Bool.and_false,Bool.false_and]at h9;exact h9),HF6⟩,by simp[intOf];omega⟩
  case za|zd=>
   exact⟨⟨j+1,nextB P h d row,false,by omega,by go_num,rfl,⟨v',rfl,HR6⟩,HS2,HL2,HLP2,(by have h9:=HFP2.out;simp only[Bool.false_and]at h9;exact h9),HF6⟩,by simp[intOf];omega⟩
open Go.RowKit Ps
theorem dY(A:Option Addr)(n c:Nat)(xs:List Int)(w:World)(h:SL w A n xs)(hp:∀x∈xs,0<=x)(hs:xs.sum<=2000000)(hn:n<=2000000):
  Calls Tryz.prog 161 #[r A n c] w fun e w'=>e=F (a B xs.sum)/\w=w':=by
 have hlen:=h.1
 have hp':∀k,0<=(xs.take k).sum:=fun k=>bc xs k hp
 have hs':∀k,(xs.take k).sum<=2000000:=fun k=>by have:=ck xs k hp;omega
 have HP:=h_ hp';have HS:=h_ hs';have HH:=h_ h;have HL:=h_ hlen;have HP0:=h_ hp;clear hp' hs' h hlen hs hp
 go_enter Tryz.func161,Tryz.ntmps161
 go_wp2
 go_loop [3,4] (fun s i=>∃k:Nat,k<=n/\i=a B k/\s=a B (xs.take k).sum) (fun _ i=>n-(intOf i).toNat)
 case atStart=>exact⟨0,by omega,rfl,by simp⟩
 case round=>
  obtain⟨k,hk,rfl,rfl⟩:=hrel
  by_cases hlt:k<n
  ·obtain⟨b,off,rfl,_,hc⟩:=HH.out.2 (by omega)
   have hcell:=hc k hlt;have h1:=HP.out k;have h2:=HS.out k
   have h3:=HP0.out _ (aX xs k (by rw[HL.out];exact hlt))
   have h4:=HS.out (k+1)
   have e:=bL xs k (by rw[HL.out];exact hlt)
   have h5:(xs.take k).sum+xs.getD k 0<=2000000:=by omega
   have E:=h_ e;clear hc e h4;generalize xs.getD k 0=x at *
   go_wp2
   go_round
   case rel=>exact⟨k+1,by omega,by go_num,by rw[E.out]⟩
   case measure=>simp[intOf];omega
  ·go_wp2
   go_ret
   exact⟨eV (by rw[List.take_of_length_le (by rw[HL.out];omega)]),rfl⟩
theorem fF{w w1:World}{v:Value}{xs:List Int}{n:Nat}(hown:w1.ownsRow w.heap.size 2 1 v (0+n) ([]++xs.map (Value.int B)))(hg:(w.alloc (D #[] 2)).grownBy w1 (Value.ownBlock (r (some ⟨w.heap.size,0,none⟩) 0 0)))(hl:xs.length=n)(hn:0<n):
  ∃g c',v=r (some ⟨g,0,none⟩) n c'∧OwnS w1 w.heap.size 2 (r (some ⟨g,0,none⟩) n c') xs∧w.heap.size≤g∧g< w1.heap.size∧
    (∀j,j< n->w1.cell? ⟨g,j,none⟩=some (a B (xs.getD j 0)))/\(∀j,w1.frozen? ⟨g,j,none⟩=false)/\Below w.heap.size w w1:=by
 have hb:Below w.heap.size w w1:=((Below.refl _ _).alloc (Nat.le_refl _) _).grown hg (by simp) (by simp[Value.ownBlock])
 have ho:OwnS w1 w.heap.size 2 v xs:=by
  unfold OwnS;rw[hl]
  simpa using hown
 obtain⟨A,c',rfl,_⟩:=ho.read;rw[hl]at ho;obtain⟨g,hA,h1,h2,h3,h4⟩:=ao ho hn;subst hA
 exact⟨g,c',by rw[hl],ho,h1,h2,h3,h4,hb⟩
theorem l10Steps_any(S:Nat->Prop)(A:Option Addr)(n c d:Nat)(p:List Int)(w:World)(hx:SL w A n p)(hc:n<=c)(h0:∀x∈p,0<=x)(hs:p.sum<=15)(hn:n<=24)(hn0:0<n)(hd1:1<=d)(hd6:d<=6)(hS:∀k,w.heap.size<=k->¬S k):
  Calls Tryz.prog 217 #[r A n c,a B d] w fun e w'=>∃v,e=F v/\OP S w' w.heap.size 24 v (au p d)/\Below w.heap.size w w':=by
 obtain⟨i0,hi,hz0,hz1,hz2⟩:=info_parts Tryz.infoL;obtain⟨i1,hj,hy0,hy1,hy2⟩:=info_parts Tryz.infoI;have HX:=h_ hx;have HL:=h_ hx.1;have H0:=h_ h0;have HS:=h_ hs;have HSS:=h_ hS
 have HC1:Hid ((p.map (Value.int B)).length=n*1):=by unfold Hid;rw[List.length_map,HL.out,Nat.mul_one]
 have HOE:Hid (OP S (w.alloc (D #[] 24)) w.heap.size 24 (r (some ⟨w.heap.size,0,none⟩) 0 0) []):=OP.made (cs:=[]) w (Nat.le_refl _) hS (PVs.nil_ _ _) (by decide)
 have HBE:Hid (Below w.heap.size w (w.alloc (D #[] 24))):=(Below.refl _ _).alloc (Nat.le_refl _) _;clear hx h0 hs hS
 go_enter Tryz.func217,Tryz.ntmps217
 go_wp2_with (fail)
 go_loopw [5,6] (fun vo vi wr=>∃k:Nat,k<=n/\vi=a B k/\(∃vx,vx=vo/\OP S wr w.heap.size 24 vx (aM p d k))/\Below w.heap.size w wr) (fun _ vi _=>n-(intOf vi).toNat)
 case atStart=>exact⟨0,by omega,rfl,⟨_,rfl,HOE.out⟩,HBE.out⟩
 case round=>
  obtain⟨k,hk,rfl,⟨vx,rfl,hO⟩,hb⟩:=hrel;have HO:=h_ hO;have HB:=h_ hb;clear hO hb
  by_cases hlt:k<n
  focus
   have hki:(k:Int)<(n:Int):=by omega
   have HXr:Hid (SL wr A n p):=HX.out.below HB.out
   obtain⟨b,off,rfl,_,hcl⟩:=HXr.out.2 (by omega)
   have hcell:=hcl k hlt
   have hpx:=H0.out _ (aX p k (by rw[HL.out];exact hlt))
   have hpm:=dr k H0.out;have hps:=HS.out
   have HLN:Hid ((aM p d k).length<=24):=by unfold Hid;have:=cn (p:=p) (d:=d) k;omega
   have HCN:Hid (∀j u,(p.map (Value.int B))[j]? =some u->(wr.alloc (D #[] 2)).cell? ((⟨b,off,none⟩:Addr).add j)=some u):=by
    intro j u hu
    have hj:j<p.length:=by have:=(List.getElem?_eq_some_iff.1 hu).1;simpa using this
    have h1:wr.cell? ⟨b,off+j,none⟩=some u:=by rw[hcl j (by have:=HL.out;omega),<-getD_map_int p j hj,hu]
    rw[Addr.add_lit]
    exact(World.cell?_alloc_lt wr _ _ (World.block_lt_of_cell? wr _ h1)).trans h1
   have HCO:Hid ((wr.alloc (D #[] 2)).ownsRow wr.heap.size 2 1 (r (some ⟨wr.heap.size,0,none⟩) 0 0) 0 []):=World.ownsRow_made wr #[] 0 (Nat.le_refl _) (by decide) rfl
   clear hcl;obtain⟨x,hx⟩:∃x:Int,p.getD k 0=x:=⟨_,rfl⟩;rw[hx]at hcell hpx hpm
   have hx15:x<=15:=by omega
   clear hpm hps
   by_cases hx0:x=0
   focus
    have HST:Hid (aM p d (k+1)=aM p d k):=gJ fun h=>h.1 (by rw[hx,hx0])
    subst hx0
    go_wp2_with (fail)
    refine ?ze
   rotate_left
   focus
    have b0:(x==0)=false:=by simp[hx0]
    by_cases hdk:(k:Int)+1<d
    focus
     have b1:decide ((k:Int)+1<(d:Int))=true:=decide_eq_true hdk
     have hd0:∀y∈p.drop (k+1),0<=y:=fun y hy=>H0.out y (List.mem_of_mem_drop hy)
     have hsn:=fS hd0
     have hsm:(p.drop (k+1)).sum<=2000000:=by
      have h1:=bc p (k+1) H0.out;have h2:=List.sum_append (l₁:=p.take (k+1)) (l₂:=p.drop (k+1));rw[List.take_append_drop]at h2;have h3:=HS.out
      omega
     by_cases hck:c=k+1
     focus
      subst hck
      have hz:(p.drop (k+1)).sum=0:=by rw[List.drop_of_length_le (by rw[HL.out];omega)];rfl
      have CS:=h_ (show Calls Tryz.prog 161 #[r (some ⟨b,off,none⟩) 0 0] wr (fun e w'=>e=F (a B 0)/\wr=w')from dY (some ⟨b,off,none⟩) 0 0 [] wr (SL.empty wr _) (by simp) (by simp) (by omega))
      refine ?za
     rotate_left
     focus
      have CS:=dY (some ⟨b,off+(k+1),none⟩) (n-(k+1)) (c-(k+1)) _ wr (by have:=HXr.out.cut (k:=k+1) (cap:=c) (by omega) hc;rw[if_neg hck]at this;simpa[Addr.add_lit]using this) hd0 hsm (by omega)
      by_cases hz:(p.drop (k+1)).sum=0
      focus
       rw[hz]at CS
       have CS:=h_ CS
       refine ?zb
      rotate_left
      focus
       have HST:Hid (aM p d (k+1)=aM p d k):=gJ fun h=>by
        rcases h.2 with h'|h'
        ·omega
        ·exact hz h'
       have b4:decide (0<(p.drop (k+1)).sum)=true:=decide_eq_true (by omega)
       have CS:=h_ CS;clear hd0;generalize (p.drop (k+1)).sum=s0 at *
       go_wp2_with ((go_at_call 161;refine CS.out.mono ?_;rintro e w' ⟨rfl,rfl⟩))
       refine ?zd
    rotate_left 3
    focus
     have b1:decide ((k:Int)+1<(d:Int))=false:=decide_eq_false hdk
     have hcan:canP p k d:=⟨by rw[hx];exact hx0,.inl (by omega)⟩
     refine ?zc
  rotate_left 5
  ·have hkn:k=n:=by omega
   subst hkn
   go_wp2_with (fail)
   go_ret
   exact⟨_,rfl,by unfold au;rw[HL.out];exact HO.out,HB.out⟩
  case' za|zb=>
   have hcan:canP p k d:=⟨by rw[hx];exact hx0,.inr hz⟩
  case' zc|za|zb=>
   have HST:Hid (aM p d (k+1)=aM p d k++[aC p k d]):=dO hcan
  case zc=>
   by_cases hle:d<=k
   ·have b3:decide ((d:Int)<=k)=true:=decide_eq_true (by omega)
    have HSP:Hid (aC p k d=(p.set k (x-1)).set (k-d) (p.getD (k-d) 0+1)):=by rw[<-hx];exact stepTo_in hle
    have hsub:((k:Int)-(d:Int))=((k-d:Nat):Int):=by omega
    have hy0':=H0.out _ (aX p (k-d) (by rw[HL.out];omega))
    have hy1':=dr (k-d) H0.out;have hps:=HS.out;obtain⟨y,hy⟩:∃y:Int,p.getD (k-d) 0=y:=⟨_,rfl⟩;rw[hy]at hy0' hy1' HSP
    have hy15:y<=15:=by omega
    clear hy1' hps;have hy:=h_ hy
    go_wp2_with (first
     |fail
     | (at_builtin
        (refine wpList_append_own _ rfl _ _ 24 rfl wr.heap.size 2 i1 (a B 0) 1 8 Tryz.underlying24 hj hy0 hy1 hy2 rfl (by decide) _ 0 [] rfl HCO.out ⟨b,off,none⟩ n c (p.map (Value.int B)) rfl HC1.out HCN.out (ints_oneCell _ _) (by unfold maxLen;omega) (by omega) (by simp) ?_)
        intro v1 w1 hcown hcgrow _
        obtain⟨g,c1,hv1,ho,hg1,hg2,hcl,hfz,hb⟩:=fF hcown hcgrow HL.out (by omega)
        subst hv1;clear hcown hcgrow
        have d1:=hcl k (by omega)
        have d2:=hfz k;rw [hx]at d1
        (have d3:=hcl (k-d) (by omega);have d4:=hfz (k-d);rw [hy.out]at d3)
        clear hcl hfz;have HOW:=h_ ((ho.stored k (x-1)).stored (k-d) (y+1));have HW:Hid (Below wr.heap.size wr ((w1.setCell ⟨g,k,none⟩ (a B (x-1))).setCell ⟨g,k-d,none⟩ (a B (y+1)))):=stw (stw hb hg1) hg1
        have HOS:Hid (OwnS ((w1.setCell ⟨g,k,none⟩ (a B (x-1))).setCell ⟨g,k-d,none⟩ (a B (y+1))) wr.heap.size 2 (r (some ⟨g,0,none⟩) n c1) (aC p k d)):=by rw [HSP.out];exact HOW.out
        obtain⟨cs,hrow,hpv, -⟩:=HO.out;have HROW:=h_ (row_alloc (own_below hrow HW.out) (D #[r (some ⟨g,0,none⟩) n c1] 24));have HPV:=h_ ((hpv.frm (Frm.of_below' _ HW.out)).frm ((Frm.refl (wth S vx) _).alloc (D #[r (some ⟨g,0,none⟩) n c1] 24)));have hlt2:=h_ (HO.out.lt)
        have HPE:Hid (PVs (wth S vx) (((w1.setCell ⟨g,k,none⟩ (a B (x-1))).setCell ⟨g,k-d,none⟩ (a B (y+1))).alloc (D #[r (some ⟨g,0,none⟩) n c1] 24)) [r (some ⟨g,0,none⟩) n c1] [aC p k d]):=
          PVs.one ((PV.own (HOS.out.alloc' _) fun q hq=>by
            rintro(h' |h')
            ·exact HSS.out q (by have:=HB.out.size;omega) h'
            ·have:=(hlt2.out q h').2;omega))
        have HNW:Hid (∀j u,[Value.slice (some ⟨g,0,none⟩) n c1][j]? =some u->(((w1.setCell ⟨g,k,none⟩ (a B (x-1))).setCell ⟨g,k-d,none⟩ (a B (y+1))).alloc (D #[r (some ⟨g,0,none⟩) n c1] 24)).cell? ((⟨w1.heap.size,0,none⟩:Addr).add j)=some u):=by
          have h:=one_new ((w1.setCell ⟨g,k,none⟩ (a B (x-1))).setCell ⟨g,k-d,none⟩ (a B (y+1))) (r (some ⟨g,0,none⟩) n c1) 24
          rw [show((w1.setCell ⟨g,k,none⟩ (a B (x-1))).setCell ⟨g,k-d,none⟩ (a B (y+1))).heap.size=w1.heap.size by simp]at h
          exact h
        clear hrow hpv ho HCO)
     | (at_builtin
        (refine wpList_append_own_at _ rfl _ _ 186 rfl w.heap.size 24 i0 (r none 0 0) 1 24 Tryz.underlying186 hi hz0 hz1 hz2 rfl (by decide) _ _ _ rfl HROW.out ⟨w1.heap.size,0,none⟩ 1 1 [r (some ⟨g,0,none⟩) n c1] rfl rfl HNW.out (aI _ _ _) (by have:=HLN.out;unfold maxLen;omega) (by have:=HLN.out;omega) (by have h1:=HB.out.size;have h2:=HW.out.size;simp;omega) ?_)
        intro v' w2 hown hgrow _ hat
        have HO2:Hid (OP S w2 w.heap.size 24 v' (aM p d k++[aC p k d])):=OP.grew HPV.out HPE.out hown rfl hgrow hat HSS.out
        have HB2:Hid (Below w.heap.size w w2):=((HB.out.trans (HW.out.mono HB.out.size)).alloc (by have h1:=HB.out.size;have h2:=HW.out.size;omega) _).grown hgrow (by have h1:=HB.out.size;have h2:=HW.out.size;simp;omega) (fun q hq=>by have:=HROW.out;exact(World.ownsRow.lt this q hq).1)
        clear hown hgrow hat))
    go_roundw
    case rel=>exact⟨k+1,by omega,by go_num,⟨_,rfl,by rw[HST.out];exact HO2.out⟩,HB2.out⟩
    case measure=>(simp[intOf])<;>omega
   ·have b3:decide ((d:Int)<=k)=false:=decide_eq_false (by omega)
    have HSP:Hid (aC p k d=p.set k (x-1)):=by rw[<-hx];exact dP hle
    go_wp2_with (first
     |fail
     | (at_builtin
        (refine wpList_append_own _ rfl _ _ 24 rfl wr.heap.size 2 i1 (a B 0) 1 8 Tryz.underlying24 hj hy0 hy1 hy2 rfl (by decide) _ 0 [] rfl HCO.out ⟨b,off,none⟩ n c (p.map (Value.int B)) rfl HC1.out HCN.out (ints_oneCell _ _) (by unfold maxLen;omega) (by omega) (by simp) ?_)
        intro v1 w1 hcown hcgrow _
        obtain⟨g,c1,hv1,ho,hg1,hg2,hcl,hfz,hb⟩:=fF hcown hcgrow HL.out (by omega)
        subst hv1;clear hcown hcgrow
        have d1:=hcl k (by omega)
        have d2:=hfz k;rw [hx]at d1
        skip
        clear hcl hfz;have HOW:=h_ (ho.stored k (x-1));have HW:Hid (Below wr.heap.size wr (w1.setCell ⟨g,k,none⟩ (a B (x-1)))):=stw hb hg1
        have HOS:Hid (OwnS (w1.setCell ⟨g,k,none⟩ (a B (x-1))) wr.heap.size 2 (r (some ⟨g,0,none⟩) n c1) (aC p k d)):=by rw [HSP.out];exact HOW.out
        obtain⟨cs,hrow,hpv, -⟩:=HO.out;have HROW:=h_ (row_alloc (own_below hrow HW.out) (D #[r (some ⟨g,0,none⟩) n c1] 24));have HPV:=h_ ((hpv.frm (Frm.of_below' _ HW.out)).frm ((Frm.refl (wth S vx) _).alloc (D #[r (some ⟨g,0,none⟩) n c1] 24)));have hlt2:=h_ (HO.out.lt)
        have HPE:Hid (PVs (wth S vx) ((w1.setCell ⟨g,k,none⟩ (a B (x-1))).alloc (D #[r (some ⟨g,0,none⟩) n c1] 24)) [r (some ⟨g,0,none⟩) n c1] [aC p k d]):=
          PVs.one ((PV.own (HOS.out.alloc' _) fun q hq=>by
            rintro(h' |h')
            ·exact HSS.out q (by have:=HB.out.size;omega) h'
            ·have:=(hlt2.out q h').2;omega))
        have HNW:Hid (∀j u,[Value.slice (some ⟨g,0,none⟩) n c1][j]? =some u->((w1.setCell ⟨g,k,none⟩ (a B (x-1))).alloc (D #[r (some ⟨g,0,none⟩) n c1] 24)).cell? ((⟨w1.heap.size,0,none⟩:Addr).add j)=some u):=by
          have h:=one_new (w1.setCell ⟨g,k,none⟩ (a B (x-1))) (r (some ⟨g,0,none⟩) n c1) 24
          rw [show(w1.setCell ⟨g,k,none⟩ (a B (x-1))).heap.size=w1.heap.size by simp]at h
          exact h
        clear hrow hpv ho HCO)
     | (at_builtin
        (refine wpList_append_own_at _ rfl _ _ 186 rfl w.heap.size 24 i0 (r none 0 0) 1 24 Tryz.underlying186 hi hz0 hz1 hz2 rfl (by decide) _ _ _ rfl HROW.out ⟨w1.heap.size,0,none⟩ 1 1 [r (some ⟨g,0,none⟩) n c1] rfl rfl HNW.out (aI _ _ _) (by have:=HLN.out;unfold maxLen;omega) (by have:=HLN.out;omega) (by have h1:=HB.out.size;have h2:=HW.out.size;simp;omega) ?_)
        intro v' w2 hown hgrow _ hat
        have HO2:Hid (OP S w2 w.heap.size 24 v' (aM p d k++[aC p k d])):=OP.grew HPV.out HPE.out hown rfl hgrow hat HSS.out
        have HB2:Hid (Below w.heap.size w w2):=((HB.out.trans (HW.out.mono HB.out.size)).alloc (by have h1:=HB.out.size;have h2:=HW.out.size;omega) _).grown hgrow (by have h1:=HB.out.size;have h2:=HW.out.size;simp;omega) (fun q hq=>by have:=HROW.out;exact(World.ownsRow.lt this q hq).1)
        clear hown hgrow hat))
    go_roundw
    case rel=>exact⟨k+1,by omega,by go_num,⟨_,rfl,by rw[HST.out];exact HO2.out⟩,HB2.out⟩
    case measure=>(simp[intOf])<;>omega
  case' za|zb=>
   have HSP:Hid (aC p k d=p.set k (x-1)):=by rw[<-hx];exact dP (by omega)
   clear hd0 hsm hz hsn
  case za=>
   go_wp2_with (first
    |(go_at_call 161;((with_reducible refine CS.out.mono ?_);rintro e w' ⟨rfl,rfl⟩))
    | (at_builtin
       (refine wpList_append_own _ rfl _ _ 24 rfl wr.heap.size 2 i1 (a B 0) 1 8 Tryz.underlying24 hj hy0 hy1 hy2 rfl (by decide) _ 0 [] rfl HCO.out ⟨b,off,none⟩ n (k+1) (p.map (Value.int B)) rfl HC1.out HCN.out (ints_oneCell _ _) (by unfold maxLen;omega) (by omega) (by simp) ?_)
       intro v1 w1 hcown hcgrow _
       obtain⟨g,c1,hv1,ho,hg1,hg2,hcl,hfz,hb⟩:=fF hcown hcgrow HL.out (by omega)
       subst hv1;clear hcown hcgrow
       have d1:=hcl k (by omega)
       have d2:=hfz k;rw [hx]at d1
       skip
       clear hcl hfz;have HOW:=h_ (ho.stored k (x-1));have HW:Hid (Below wr.heap.size wr (w1.setCell ⟨g,k,none⟩ (a B (x-1)))):=stw hb hg1
       have HOS:Hid (OwnS (w1.setCell ⟨g,k,none⟩ (a B (x-1))) wr.heap.size 2 (r (some ⟨g,0,none⟩) n c1) (aC p k d)):=by rw [HSP.out];exact HOW.out
       obtain⟨cs,hrow,hpv, -⟩:=HO.out;have HROW:=h_ (row_alloc (own_below hrow HW.out) (D #[r (some ⟨g,0,none⟩) n c1] 24));have HPV:=h_ ((hpv.frm (Frm.of_below' _ HW.out)).frm ((Frm.refl (wth S vx) _).alloc (D #[r (some ⟨g,0,none⟩) n c1] 24)));have hlt2:=h_ (HO.out.lt)
       have HPE:Hid (PVs (wth S vx) ((w1.setCell ⟨g,k,none⟩ (a B (x-1))).alloc (D #[r (some ⟨g,0,none⟩) n c1] 24)) [r (some ⟨g,0,none⟩) n c1] [aC p k d]):=
         PVs.one ((PV.own (HOS.out.alloc' _) fun q hq=>by
           rintro(h' |h')
           ·exact HSS.out q (by have:=HB.out.size;omega) h'
           ·have:=(hlt2.out q h').2;omega))
       have HNW:Hid (∀j u,[Value.slice (some ⟨g,0,none⟩) n c1][j]? =some u->((w1.setCell ⟨g,k,none⟩ (a B (x-1))).alloc (D #[r (some ⟨g,0,none⟩) n c1] 24)).cell? ((⟨w1.heap.size,0,none⟩:Addr).add j)=some u):=by
         have h:=one_new (w1.setCell ⟨g,k,none⟩ (a B (x-1))) (r (some ⟨g,0,none⟩) n c1) 24
         rw [show(w1.setCell ⟨g,k,none⟩ (a B (x-1))).heap.size=w1.heap.size by simp]at h
         exact h
       clear hrow hpv ho HCO)
    | (at_builtin
       (refine wpList_append_own_at _ rfl _ _ 186 rfl w.heap.size 24 i0 (r none 0 0) 1 24 Tryz.underlying186 hi hz0 hz1 hz2 rfl (by decide) _ _ _ rfl HROW.out ⟨w1.heap.size,0,none⟩ 1 1 [r (some ⟨g,0,none⟩) n c1] rfl rfl HNW.out (aI _ _ _) (by have:=HLN.out;unfold maxLen;omega) (by have:=HLN.out;omega) (by have h1:=HB.out.size;have h2:=HW.out.size;simp;omega) ?_)
       intro v' w2 hown hgrow _ hat
       have HO2:Hid (OP S w2 w.heap.size 24 v' (aM p d k++[aC p k d])):=OP.grew HPV.out HPE.out hown rfl hgrow hat HSS.out
       have HB2:Hid (Below w.heap.size w w2):=((HB.out.trans (HW.out.mono HB.out.size)).alloc (by have h1:=HB.out.size;have h2:=HW.out.size;omega) _).grown hgrow (by have h1:=HB.out.size;have h2:=HW.out.size;simp;omega) (fun q hq=>by have:=HROW.out;exact(World.ownsRow.lt this q hq).1)
       clear hown hgrow hat))
   go_roundw
   case rel=>exact⟨k+1,by omega,by go_num,⟨_,rfl,by rw[HST.out];exact HO2.out⟩,HB2.out⟩
   case measure=>(simp[intOf])<;>omega
  case zb=>
   go_wp2_with (first
    |(go_at_call 161;refine CS.out.mono ?_;rintro e w' ⟨rfl,rfl⟩)
    | (at_builtin
       (refine wpList_append_own _ rfl _ _ 24 rfl wr.heap.size 2 i1 (a B 0) 1 8 Tryz.underlying24 hj hy0 hy1 hy2 rfl (by decide) _ 0 [] rfl HCO.out ⟨b,off,none⟩ n c (p.map (Value.int B)) rfl HC1.out HCN.out (ints_oneCell _ _) (by unfold maxLen;omega) (by omega) (by simp) ?_)
       intro v1 w1 hcown hcgrow _
       obtain⟨g,c1,hv1,ho,hg1,hg2,hcl,hfz,hb⟩:=fF hcown hcgrow HL.out (by omega)
       subst hv1;clear hcown hcgrow
       have d1:=hcl k (by omega)
       have d2:=hfz k;rw [hx]at d1
       skip
       clear hcl hfz;have HOW:=h_ (ho.stored k (x-1));have HW:Hid (Below wr.heap.size wr (w1.setCell ⟨g,k,none⟩ (a B (x-1)))):=stw hb hg1
       have HOS:Hid (OwnS (w1.setCell ⟨g,k,none⟩ (a B (x-1))) wr.heap.size 2 (r (some ⟨g,0,none⟩) n c1) (aC p k d)):=by rw [HSP.out];exact HOW.out
       obtain⟨cs,hrow,hpv, -⟩:=HO.out;have HROW:=h_ (row_alloc (own_below hrow HW.out) (D #[r (some ⟨g,0,none⟩) n c1] 24));have HPV:=h_ ((hpv.frm (Frm.of_below' _ HW.out)).frm ((Frm.refl (wth S vx) _).alloc (D #[r (some ⟨g,0,none⟩) n c1] 24)));have hlt2:=h_ (HO.out.lt)
       have HPE:Hid (PVs (wth S vx) ((w1.setCell ⟨g,k,none⟩ (a B (x-1))).alloc (D #[r (some ⟨g,0,none⟩) n c1] 24)) [r (some ⟨g,0,none⟩) n c1] [aC p k d]):=
         PVs.one ((PV.own (HOS.out.alloc' _) fun q hq=>by
           rintro(h' |h')
           ·exact HSS.out q (by have:=HB.out.size;omega) h'
           ·have:=(hlt2.out q h').2;omega))
       have HNW:Hid (∀j u,[Value.slice (some ⟨g,0,none⟩) n c1][j]? =some u->((w1.setCell ⟨g,k,none⟩ (a B (x-1))).alloc (D #[r (some ⟨g,0,none⟩) n c1] 24)).cell? ((⟨w1.heap.size,0,none⟩:Addr).add j)=some u):=by
         have h:=one_new (w1.setCell ⟨g,k,none⟩ (a B (x-1))) (r (some ⟨g,0,none⟩) n c1) 24
         rw [show(w1.setCell ⟨g,k,none⟩ (a B (x-1))).heap.size=w1.heap.size by simp]at h
         exact h
       clear hrow hpv ho HCO)
    | (at_builtin
       (refine wpList_append_own_at _ rfl _ _ 186 rfl w.heap.size 24 i0 (r none 0 0) 1 24 Tryz.underlying186 hi hz0 hz1 hz2 rfl (by decide) _ _ _ rfl HROW.out ⟨w1.heap.size,0,none⟩ 1 1 [r (some ⟨g,0,none⟩) n c1] rfl rfl HNW.out (aI _ _ _) (by have:=HLN.out;unfold maxLen;omega) (by have:=HLN.out;omega) (by have h1:=HB.out.size;have h2:=HW.out.size;simp;omega) ?_)
       intro v' w2 hown hgrow _ hat
       have HO2:Hid (OP S w2 w.heap.size 24 v' (aM p d k++[aC p k d])):=OP.grew HPV.out HPE.out hown rfl hgrow hat HSS.out
       have HB2:Hid (Below w.heap.size w w2):=((HB.out.trans (HW.out.mono HB.out.size)).alloc (by have h1:=HB.out.size;have h2:=HW.out.size;omega) _).grown hgrow (by have h1:=HB.out.size;have h2:=HW.out.size;simp;omega) (fun q hq=>by have:=HROW.out;exact(World.ownsRow.lt this q hq).1)
       clear hown hgrow hat))
   go_roundw
   case rel=>exact⟨k+1,by omega,by go_num,⟨_,rfl,by rw[HST.out];exact HO2.out⟩,HB2.out⟩
   case measure=>(simp[intOf])<;>omega
  case zd|ze=>
   go_roundw
   case rel=>exact⟨k+1,by omega,by go_num,⟨_,rfl,by rw[HST.out];exact HO.out⟩,HB.out⟩
   case measure=>(simp[intOf])<;>omega
end Go.Proofs.YtcmeoenkgmghkaaGreat

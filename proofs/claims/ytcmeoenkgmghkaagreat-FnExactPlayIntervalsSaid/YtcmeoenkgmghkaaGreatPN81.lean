/- Part of one proof. There are no conditions. -/
import Derived.Test.YtcmeoenkgmghkaaGreatPN80
set_option maxHeartbeats 0
set_option linter.unusedVariables false
set_option linter.unusedSimpArgs false
open Go.Value renaming int->a,slice->d
open Go.IntKind renaming i64->b
open Go.Obj renaming cells->j
namespace Go.Proofs.YtcmeoenkgmghkaaGreat
open Go.RowKit Ps
def solvB(p h:Int)(own other:List Int):Bool:=decide (own.sum=0\/other.sum=0\/(¬p<=topI own own.length+topI other other.length/\topI own own.length<h/\topI other other.length<h))
theorem kD(p c h s:Int)(A1 A2:Option Addr)(n1 c1 n2 c2:Nat)(own other:List Int)(w:World)(h1:SL w A1 n1 own)(h2:SL w A2 n2 other)(hq1:∀x∈own,0<=x)(hq2:∀x∈other,0<=x)(hm1:own.sum<=2000000)(hm2:other.sum<=2000000)(hn1:n1<=2000)(hn2:n2<=2000)
  (hz1:own.sum≠0) (hz2:other.sum≠0) (hp:0<=p) (hp2:p<=100):
  Calls Tryz.prog 156 #[.agg #[a b p,a b c,a b h,a b s],.agg #[d A1 n1 c1,d A2 n2 c2]] w fun e w'=>e= .returned (.bool (decide (p<=topI own own.length+topI other other.length)))/\Below w.heap.size w w':=by
 have HB:Hid (Below w.heap.size w ((w.alloc (j #[a b p,a b c,a b h,a b s] 33)).alloc (j #[d A1 n1 c1,d A2 n2 c2] 35))):=((Below.refl _ _).alloc (Nat.le_refl _) _).alloc (by simp) _
 have HBZ:Hid (w.heap.size<=((w.alloc (j #[a b p,a b c,a b h,a b s] 33)).alloc (j #[d A1 n1 c1,d A2 n2 c2] 35)).heap.size):=HB.out.size;have H1:=h_ (h1.below HB.out);have H2:=h_ (h2.below HB.out);obtain rfl:own.length=n1:=h1.1;obtain rfl:other.length=n2:=h2.1;have x0:=jj hq1 hz1;have y0:=jj hq2 hz2;have x1:=(cY own own.length).2;have y1:=(cY other other.length).2
 have CO:=h_ fun t=>eI A1 A2 own.length c1 other.length c2 own other (more _ t) (H1.out.more t) (H2.out.more t) hq1 hq2 hm1 hm2 (by omega) (by omega)
 have CH1:=h_ fun t=>cJ A1 own.length c1 own (more _ t) (H1.out.more t) hn1
 have CH2:=h_ fun t=>cJ A2 other.length c2 other (more _ t) (H2.out.more t) hn2
 have hov:decide (own.sum=0\/other.sum=0)=false:=decide_eq_false fun h=>h.elim hz1 hz2
 rw[hov]at CO;clear h1 h2 hq1 hq2 hm1 hm2 hz1 hz2 hov;generalize topI own own.length=x at *;generalize topI other other.length=y at *
 have hxy1:x+y<=10000:=by omega
 have hxy0:0<=x+y:=by omega
 by_cases hc:p<=x+y
 focus
  have HR:Hid (decide (p<=x+y)=true):=decide_eq_true hc
  refine ?za
 rotate_left
 focus
  have HR:Hid (decide (p<=x+y)=false):=decide_eq_false hc
  refine ?zb
 rotate_left
 case za|zb=>
  go_enter Tryz.func156,Tryz.ntmps156
  go_wp2_with (fail)
  first|refine ag (by kernel_rfl) (by kernel_rfl) ?_|refine ae (by kernel_rfl) (by kernel_rfl) ?_
  repeat (first|go_big_quiet_step ((first|(go_at_call 155;exact more_call (CO.out _))|(go_at_call_of 157 A1;exact ab (CH1.out _))|(go_at_call_of 157 A2;exact ab (CH2.out _))))|quiet_step ((first|(go_at_call 155;exact more_call (CO.out _))|(go_at_call_of 157 A1;exact ab (CH1.out _))|(go_at_call_of 157 A2;exact ab (CH2.out _)))))
  refine wpQuiet_nil ?_
  intro _ hw'
  obtain⟨t2,hw''⟩:=hw';subst hw''
  go_wp2_with (fail)
  go_ret
  exact⟨by rw[HR.out];first|rfl|(simp<;>first|omega|assumption),by repeat (first|exact HB.out|refine Below.trans ?_ (Below.mono (aa _ _) (by first|exact HBZ.out|exact Nat.le_trans HBZ.out (ai _ _)|exact Nat.le_trans (Nat.le_trans HBZ.out (ai _ _)) (ai _ _))))⟩
theorem kC(p c h s:Int)(A1 A2:Option Addr)(n1 c1 n2 c2:Nat)(own other:List Int)(w:World)(h1:SL w A1 n1 own)(h2:SL w A2 n2 other)(hq1:∀x∈own,0<=x)(hq2:∀x∈other,0<=x)(hm1:own.sum<=2000000)(hm2:other.sum<=2000000)(hn1:n1<=2000)(hn2:n2<=2000)
  (hz1:own.sum≠0) (hz2:other.sum≠0) (hp:0<=p) (hp2:p<=100):
  Calls Tryz.prog 94 #[.agg #[a b p,a b c,a b h,a b s],.agg #[d A1 n1 c1,d A2 n2 c2]] w fun e w'=>e= .returned (.bool (decide (p<=topI own own.length+topI other other.length)))/\Below w.heap.size w w':=by
 have HB:Hid (Below w.heap.size w ((w.alloc (j #[a b p,a b c,a b h,a b s] 33)).alloc (j #[d A1 n1 c1,d A2 n2 c2] 35))):=((Below.refl _ _).alloc (Nat.le_refl _) _).alloc (by simp) _
 have HBZ:Hid (w.heap.size<=((w.alloc (j #[a b p,a b c,a b h,a b s] 33)).alloc (j #[d A1 n1 c1,d A2 n2 c2] 35)).heap.size):=HB.out.size;have H1:=h_ (h1.below HB.out);have H2:=h_ (h2.below HB.out);obtain rfl:own.length=n1:=h1.1;obtain rfl:other.length=n2:=h2.1;have x0:=jj hq1 hz1;have y0:=jj hq2 hz2;have x1:=(cY own own.length).2;have y1:=(cY other other.length).2
 have CO:=h_ fun t=>gk A1 A2 own.length c1 other.length c2 own other (more _ t) (H1.out.more t) (H2.out.more t) hq1 hq2 hm1 hm2 (by omega) (by omega)
 have CH1:=h_ fun t=>dj A1 own.length c1 own (more _ t) (H1.out.more t) hn1
 have CH2:=h_ fun t=>dj A2 other.length c2 other (more _ t) (H2.out.more t) hn2
 have hov:decide (own.sum=0\/other.sum=0)=false:=decide_eq_false fun h=>h.elim hz1 hz2
 rw[hov]at CO;clear h1 h2 hq1 hq2 hm1 hm2 hz1 hz2 hov;generalize topI own own.length=x at *;generalize topI other other.length=y at *
 have hxy1:x+y<=10000:=by omega
 have hxy0:0<=x+y:=by omega
 by_cases hc:p<=x+y
 focus
  have HR:Hid (decide (p<=x+y)=true):=decide_eq_true hc
  refine ?za
 rotate_left
 focus
  have HR:Hid (decide (p<=x+y)=false):=decide_eq_false hc
  refine ?zb
 rotate_left
 case za|zb=>
  go_enter Tryz.func94,Tryz.ntmps94
  go_wp2_with (fail)
  first|refine ag (by kernel_rfl) (by kernel_rfl) ?_|refine ae (by kernel_rfl) (by kernel_rfl) ?_
  repeat (first|go_big_quiet_step ((first|(go_at_call_of 165 A1;exact ab (CH1.out _))|(go_at_call_of 165 A2;exact ab (CH2.out _))))|quiet_step ((first|(go_at_call_of 165 A1;exact ab (CH1.out _))|(go_at_call_of 165 A2;exact ab (CH2.out _)))))
  refine wpQuiet_nil ?_
  intro _ hw'
  obtain⟨t2,hw''⟩:=hw';subst hw''
  go_wp2_with (fail)
  go_ret
  exact⟨by rw[HR.out];first|rfl|(simp<;>first|omega|assumption),by repeat (first|exact HB.out|refine Below.trans ?_ (Below.mono (aa _ _) (by first|exact HBZ.out|exact Nat.le_trans HBZ.out (ai _ _)|exact Nat.le_trans (Nat.le_trans HBZ.out (ai _ _)) (ai _ _))))⟩
theorem jJ(p c h s:Int)(A1 A2:Option Addr)(n1 c1 n2 c2:Nat)(own other:List Int)(w:World)(h1:SL w A1 n1 own)(h2:SL w A2 n2 other)(hq1:∀x∈own,0<=x)(hq2:∀x∈other,0<=x)(hm1:own.sum<=2000000)(hm2:other.sum<=2000000)(hn1:n1<=2000)(hn2:n2<=2000)
  (hv:smB p c h s=true):
  Calls Tryz.prog 84 #[.agg #[a b p,a b c,a b h,a b s],.agg #[d A1 n1 c1,d A2 n2 c2]] w fun e w'=>e= .returned (.bool (solvB p h own other))/\Below w.heap.size w w':=by
 have HB:Hid (Below w.heap.size w ((w.alloc (j #[a b p,a b c,a b h,a b s] 33)).alloc (j #[d A1 n1 c1,d A2 n2 c2] 35))):=((Below.refl _ _).alloc (Nat.le_refl _) _).alloc (by simp) _
 have HBZ:Hid (w.heap.size<=((w.alloc (j #[a b p,a b c,a b h,a b s] 33)).alloc (j #[d A1 n1 c1,d A2 n2 c2] 35)).heap.size):=HB.out.size;have H1:=h_ (h1.below HB.out);have H2:=h_ (h2.below HB.out);obtain rfl:own.length=n1:=h1.1;obtain rfl:other.length=n2:=h2.1;obtain⟨hvv,hp6,hc3,-⟩:=ew hv;obtain⟨v1,-,v3,v4,v5,v6,-⟩:=aA hvv
 obtain⟨c',rfl⟩:∃c':Nat,c=c':=⟨c.toNat,by omega⟩
 obtain⟨h',rfl⟩:∃h':Nat,h=h':=⟨h.toNat,by omega⟩
 have hw:=gw (h:=h') (c:=c') (by omega) (by omega)
 have hwc:wysC h' c'=wys h' c':=eM (by omega)
 have CO:=h_ (eI A1 A2 own.length c1 other.length c2 own other _ H1.out H2.out hq1 hq2 hm1 hm2 (by omega) (by omega))
 have CC0:=fun(hz1:own.sum≠0) (hz2:other.sum≠0) t=>kD p c' h' s A1 A2 own.length c1 other.length c2 own other (more _ t) (H1.out.more t) (H2.out.more t) hq1 hq2 hm1 hm2 hn1 hn2 hz1 hz2 (by omega) (by omega)
 have CH1:=h_ fun t=>cJ A1 own.length c1 own (more _ t) (H1.out.more t) hn1
 have CH2:=h_ fun t=>cJ A2 other.length c2 other (more _ t) (H2.out.more t) hn2
 have CN0:=fun(W:World)=>eL p s c' h' W hvv
 rw[hwc]at CN0;have CN:=h_ CN0
 have hN0:(0:Int)<=(wys h' c':Int):=by omega
 have hN5:(wys h' c':Int)<=500:=by omega
 have hI:inB (wys h' c':Int) 0 500=true:=bw ⟨hN0,hN5⟩
 have CI0:=fun(W:World)=>l01In_any (wys h' c':Int) 0 500 W
 rw[hI]at CI0;have CI:=h_ CI0;have x1:=cY own own.length;have y1:=cY other other.length;have HS0:Hid (solvB p h' own other=decide (own.sum=0\/other.sum=0\/(¬p<=topI own own.length+topI other other.length/\topI own own.length<h'/\topI other other.length<h'))):=rfl;clear h1 h2 hq1 hq2 hm1 hm2 hwc CN0 CI0 hI hw hv hvv;generalize (wys h' c':Int)=N at *
 by_cases hov:own.sum=0\/other.sum=0
 focus
  have HR:Hid (solvB p h' own other=true):=by unfold Hid;rw[HS0.out];exact decide_eq_true (hov.elim .inl fun h=>.inr (.inl h))
  rw[decide_eq_true hov]at CO;clear CC0 hov HS0
  go_enter Tryz.func84,Tryz.ntmps84
  go_wp2_with (go_at_call 155;refine(more_first CO.out).mono ?_;rintro e w' ⟨rfl,t,rfl⟩)
  refine ?ze
 rotate_left
 focus
  have CC1:=CC0 (fun h=>hov (.inl h)) (fun h=>hov (.inr h))
  have HS:Hid (solvB p h' own other=decide (¬p<=topI own own.length+topI other other.length/\topI own own.length<h'/\topI other other.length<h')):=by
   unfold Hid;rw[HS0.out]
   refine decide_eq_decide.2 ⟨fun h=>?_,fun h=>.inr (.inr h)⟩
   rcases h with h|h|h
   ·exact absurd (.inl h) hov
   ·exact absurd (.inr h) hov
   ·exact h
  rw[decide_eq_false hov]at CO;clear CC0 hov HS0;generalize topI own own.length=x at *;generalize topI other other.length=y at *
  by_cases hc:p<=x+y
  focus
   have HR:Hid (solvB p h' own other=false):=by unfold Hid;rw[HS.out];exact decide_eq_false fun h=>h.1 hc
   rw[decide_eq_true hc]at CC1;have CC:=h_ CC1;clear CC1 hc HS
   refine ?zd
  rotate_left
  focus
   rw[decide_eq_false hc]at CC1
   have CC:=h_ CC1
   by_cases hx:x<h'
   focus
    have dx:decide (x<(h':Int))=true:=decide_eq_true hx
    by_cases hy:y<h'
    focus
     have dy:decide (y<(h':Int))=true:=decide_eq_true hy
     have HR:Hid (solvB p h' own other=true):=by unfold Hid;rw[HS.out];exact decide_eq_true ⟨hc,hx,hy⟩
     clear CC1 hc HS
     refine ?za
    rotate_left
    focus
     have dy:decide (y<(h':Int))=false:=decide_eq_false hy
     have HR:Hid (solvB p h' own other=false):=by unfold Hid;rw[HS.out];exact decide_eq_false fun h=>hy h.2.2
     clear CC1 hc HS
     refine ?zb
   rotate_left 2
   focus
    have dx:decide (x<(h':Int))=false:=decide_eq_false hx
    have HR:Hid (solvB p h' own other=false):=by unfold Hid;rw[HS.out];exact decide_eq_false fun h=>hx h.2.1
    clear CC1 hc HS
    refine ?zc
 rotate_left 4
 case' za|zb|zc|zd=>
  go_enter Tryz.func84,Tryz.ntmps84
  go_wp2_with (first|(go_at_call 155;refine(more_first CO.out).mono ?_;rintro e w' ⟨rfl,t,rfl⟩)|(go_at_call 133;refine(more_call (CN.out _)).mono ?_;rintro e w' ⟨rfl,t3,rfl⟩))
  first|refine ag (by kernel_rfl) (by kernel_rfl) ?_|refine ae (by kernel_rfl) (by kernel_rfl) ?_
  repeat (first|go_big_quiet_step ((first|(go_at_call 156;exact more_call (CC.out _))|(go_at_call_of 157 A1;exact ab (CH1.out _))|(go_at_call_of 157 A2;exact ab (CH2.out _))))|quiet_step ((first|(go_at_call 156;exact more_call (CC.out _))|(go_at_call_of 157 A1;exact ab (CH1.out _))|(go_at_call_of 157 A2;exact ab (CH2.out _)))))
  refine wpQuiet_nil ?_
  intro _ hw'
  obtain⟨t2,hw''⟩:=hw';subst hw''
  go_wp2_with (fail)
 case za|zb|zc|zd|ze=>
  go_ret
  exact⟨by rw[HR.out];first|rfl|(simp<;>first|omega|assumption),by repeat (first|exact HB.out|refine Below.trans ?_ (Below.mono (aa _ _) (by first|exact HBZ.out|exact Nat.le_trans HBZ.out (ai _ _)|exact Nat.le_trans (Nat.le_trans HBZ.out (ai _ _)) (ai _ _))))⟩
theorem mj(p c h s:Int)(A1 A2:Option Addr)(n1 c1 n2 c2:Nat)(own other:List Int)(w:World)(h1:SL w A1 n1 own)(h2:SL w A2 n2 other)(hq1:∀x∈own,0<=x)(hq2:∀x∈other,0<=x)(hm1:own.sum<=2000000)(hm2:other.sum<=2000000)(hn1:n1<=2000)(hn2:n2<=2000)
  (hv:smB p c h s=true):
  Calls Tryz.prog 104 #[.agg #[a b p,a b c,a b h,a b s],.agg #[d A1 n1 c1,d A2 n2 c2]] w fun e w'=>e= .returned (.bool (solvB p h own other))/\Below w.heap.size w w':=by
 have HB:Hid (Below w.heap.size w ((w.alloc (j #[a b p,a b c,a b h,a b s] 33)).alloc (j #[d A1 n1 c1,d A2 n2 c2] 35))):=((Below.refl _ _).alloc (Nat.le_refl _) _).alloc (by simp) _
 have HBZ:Hid (w.heap.size<=((w.alloc (j #[a b p,a b c,a b h,a b s] 33)).alloc (j #[d A1 n1 c1,d A2 n2 c2] 35)).heap.size):=HB.out.size;have H1:=h_ (h1.below HB.out);have H2:=h_ (h2.below HB.out);obtain rfl:own.length=n1:=h1.1;obtain rfl:other.length=n2:=h2.1;obtain⟨hvv,hp6,hc3,-⟩:=ew hv;obtain⟨v1,-,v3,v4,v5,v6,-⟩:=aA hvv
 obtain⟨c',rfl⟩:∃c':Nat,c=c':=⟨c.toNat,by omega⟩
 obtain⟨h',rfl⟩:∃h':Nat,h=h':=⟨h.toNat,by omega⟩
 have hw:=gw (h:=h') (c:=c') (by omega) (by omega)
 have hwc:wysC h' c'=wys h' c':=eM (by omega)
 have CO:=h_ (gk A1 A2 own.length c1 other.length c2 own other _ H1.out H2.out hq1 hq2 hm1 hm2 (by omega) (by omega))
 have CC0:=fun(hz1:own.sum≠0) (hz2:other.sum≠0) t=>kC p c' h' s A1 A2 own.length c1 other.length c2 own other (more _ t) (H1.out.more t) (H2.out.more t) hq1 hq2 hm1 hm2 hn1 hn2 hz1 hz2 (by omega) (by omega)
 have CH1:=h_ fun t=>dj A1 own.length c1 own (more _ t) (H1.out.more t) hn1
 have CH2:=h_ fun t=>dj A2 other.length c2 other (more _ t) (H2.out.more t) hn2
 have CN0:=fun(W:World)=>iE p s c' h' W hvv
 rw[hwc]at CN0;have CN:=h_ CN0
 have hN0:(0:Int)<=(wys h' c':Int):=by omega
 have hN5:(wys h' c':Int)<=500:=by omega
 have hI:inB (wys h' c':Int) 0 500=true:=bw ⟨hN0,hN5⟩
 have CI0:=fun(W:World)=>l01In_any (wys h' c':Int) 0 500 W
 rw[hI]at CI0;have CI:=h_ CI0;have x1:=cY own own.length;have y1:=cY other other.length;have HS0:Hid (solvB p h' own other=decide (own.sum=0\/other.sum=0\/(¬p<=topI own own.length+topI other other.length/\topI own own.length<h'/\topI other other.length<h'))):=rfl;clear h1 h2 hq1 hq2 hm1 hm2 hwc CN0 CI0 hI hw hv hvv;generalize (wys h' c':Int)=N at *
 by_cases hov:own.sum=0\/other.sum=0
 focus
  have HR:Hid (solvB p h' own other=true):=by unfold Hid;rw[HS0.out];exact decide_eq_true (hov.elim .inl fun h=>.inr (.inl h))
  rw[decide_eq_true hov]at CO;clear CC0 hov HS0
  go_enter Tryz.func104,Tryz.ntmps104
  go_wp2_with (go_at_call 95;refine(more_first CO.out).mono ?_;rintro e w' ⟨rfl,t,rfl⟩)
  refine ?ze
 rotate_left
 focus
  have CC1:=CC0 (fun h=>hov (.inl h)) (fun h=>hov (.inr h))
  have HS:Hid (solvB p h' own other=decide (¬p<=topI own own.length+topI other other.length/\topI own own.length<h'/\topI other other.length<h')):=by
   unfold Hid;rw[HS0.out]
   refine decide_eq_decide.2 ⟨fun h=>?_,fun h=>.inr (.inr h)⟩
   rcases h with h|h|h
   ·exact absurd (.inl h) hov
   ·exact absurd (.inr h) hov
   ·exact h
  rw[decide_eq_false hov]at CO;clear CC0 hov HS0;generalize topI own own.length=x at *;generalize topI other other.length=y at *
  by_cases hc:p<=x+y
  focus
   have HR:Hid (solvB p h' own other=false):=by unfold Hid;rw[HS.out];exact decide_eq_false fun h=>h.1 hc
   rw[decide_eq_true hc]at CC1;have CC:=h_ CC1;clear CC1 hc HS
   refine ?zd
  rotate_left
  focus
   rw[decide_eq_false hc]at CC1
   have CC:=h_ CC1
   by_cases hx:x<h'
   focus
    have dx:decide (x<(h':Int))=true:=decide_eq_true hx
    by_cases hy:y<h'
    focus
     have dy:decide (y<(h':Int))=true:=decide_eq_true hy
     have HR:Hid (solvB p h' own other=true):=by unfold Hid;rw[HS.out];exact decide_eq_true ⟨hc,hx,hy⟩
     clear CC1 hc HS
     refine ?za
    rotate_left
    focus
     have dy:decide (y<(h':Int))=false:=decide_eq_false hy
     have HR:Hid (solvB p h' own other=false):=by unfold Hid;rw[HS.out];exact decide_eq_false fun h=>hy h.2.2
     clear CC1 hc HS
     refine ?zb
   rotate_left 2
   focus
    have dx:decide (x<(h':Int))=false:=decide_eq_false hx
    have HR:Hid (solvB p h' own other=false):=by unfold Hid;rw[HS.out];exact decide_eq_false fun h=>hx h.2.1
    clear CC1 hc HS
    refine ?zc
 rotate_left 4
 case' za|zb|zc|zd=>
  go_enter Tryz.func104,Tryz.ntmps104
  go_wp2_with (first|(go_at_call 95;refine(more_first CO.out).mono ?_;rintro e w' ⟨rfl,t,rfl⟩)|fail)
  first|refine ag (by kernel_rfl) (by kernel_rfl) ?_|refine ae (by kernel_rfl) (by kernel_rfl) ?_
  repeat (first|go_big_quiet_step ((first|(go_at_call 94;exact more_call (CC.out _))|(go_at_call_of 165 A1;exact ab (CH1.out _))|(go_at_call_of 165 A2;exact ab (CH2.out _))|(go_at_call 57;exact more_call (CN.out _))|(go_at_call 107;exact ab (CI.out _))))|quiet_step ((first|(go_at_call 94;exact more_call (CC.out _))|(go_at_call_of 165 A1;exact ab (CH1.out _))|(go_at_call_of 165 A2;exact ab (CH2.out _))|(go_at_call 57;exact more_call (CN.out _))|(go_at_call 107;exact ab (CI.out _)))))
  refine wpQuiet_nil ?_
  intro _ hw'
  obtain⟨t2,hw''⟩:=hw';subst hw''
  go_wp2_with (fail)
 case za|zb|zc|zd|ze=>
  go_ret
  exact⟨by rw[HR.out];first|rfl|(simp<;>first|omega|assumption),by repeat (first|exact HB.out|refine Below.trans ?_ (Below.mono (aa _ _) (by first|exact HBZ.out|exact Nat.le_trans HBZ.out (ai _ _)|exact Nat.le_trans (Nat.le_trans HBZ.out (ai _ _)) (ai _ _))))⟩
end Go.Proofs.YtcmeoenkgmghkaaGreat

/- Part of one proof. There are no conditions. -/
import Derived.Test.YtkaiilmgemaljaaGreatTZv
import Derived.Test.YtkaiilmgemaljaaGreatTZl
set_option maxHeartbeats 0
set_option linter.unusedVariables false
set_option linter.unusedSimpArgs false
set_option maxRecDepth 100000
namespace Go.Proofs.YtkaiilmgemaljaaGreat
open Go.RowKit Ps Ra Ex
def codeQ (p c h s ra rb:Int) (ps:List (List Int)):Int:=if (codeT p c h s ps=0\/codeT p c h s ps=3)/\rollB s ra rb=false then 2 else codeT p c h s ps
def codeK (p c h s ra rb:Int) (own other:List Int) (both:Bool):Int:=
 if codeQ p c h s ra rb [own,other]=0 then (if (own.sum=0/\other.sum=0)\/(both=true/\(own.sum=0\/other.sum=0)) then 5 else 0) else codeQ p c h s ra rb [own,other]
theorem iw {p c h s ra rb:Int} {ps:List (List Int)} (hr:rollB s ra rb=true):codeQ p c h s ra rb ps=codeT p c h s ps:=by
 unfold codeQ
 rw[if_neg (by rintro⟨_,h⟩;rw[hr]at h;cases h)]
theorem codeK_W {p c h s ra rb:Int} {own other:List Int} {both:Bool} (hr:rollB s ra rb=true):codeK p c h s ra rb own other both=codeW p c h s own other both:=by
 unfold codeK codeW;rw[iw hr]
theorem codeK_1 {p c h s ra rb:Int} {own other:List Int} {both:Bool} (hh:codeT p c h s [own,other]=1):codeK p c h s ra rb own other both=1:=by
 have hq:codeQ p c h s ra rb [own,other]=1:=by unfold codeQ;rw[if_neg (by rw[hh];rintro⟨h0|h0,_⟩<;>cases h0),hh]
 unfold codeK;rw[if_neg (by rw[hq];intro h0;cases h0),hq]
theorem codeK_2 {p c h s ra rb:Int} {own other:List Int} {both:Bool} (hh:codeT p c h s [own,other]=2):codeK p c h s ra rb own other both=2:=by
 have hq:codeQ p c h s ra rb [own,other]=2:=by unfold codeQ;rw[if_neg (by rw[hh];rintro⟨h0|h0,_⟩<;>cases h0),hh]
 unfold codeK;rw[if_neg (by rw[hq];intro h0;cases h0),hq]
theorem codeK_no {p c h s ra rb:Int} {own other:List Int} {both:Bool} {n:Nat} (hh:codeT p c h s [own,other]=if n<=500 then 0 else 3) (hr:rollB s ra rb=false):codeK p c h s ra rb own other both=2:=by
 have h03:codeT p c h s [own,other]=0\/codeT p c h s [own,other]=3:=by rw[hh];split;exact .inl rfl;exact .inr rfl
 have hq:codeQ p c h s ra rb [own,other]=2:=by unfold codeQ;rw[if_pos ⟨h03,hr⟩]
 unfold codeK;rw[if_neg (by rw[hq];intro h0;cases h0),hq]
theorem eG {p c h s ra rb:Int} {own other:List Int} {both:Bool} (H:codeK p c h s ra rb own other both=0):codeT p c h s [own,other]=0/\rollB s ra rb=true/\¬((own.sum=0/\other.sum=0)\/(both=true/\(own.sum=0\/other.sum=0))):=by
 have hq:codeQ p c h s ra rb [own,other]=0:=by
  by_cases h0:codeQ p c h s ra rb [own,other]=0
  ·exact h0
  ·unfold codeK at H;rw[if_neg h0]at H;exact H
 have hr:rollB s ra rb=true:=by
  cases hrr:rollB s ra rb with
  | true=>rfl
  | false =>
    unfold codeQ at hq; rw [hrr] at hq
    by_cases h3 : codeT p c h s [own, other] = 0 \/ codeT p c h s [own, other] = 3
    · rw [if_pos ⟨h3, rfl⟩] at hq; cases hq
    · rw [if_neg fun h => h3 h.1] at hq; exact absurd (.inl hq) h3
 refine⟨by rw[iw hr]at hq;exact hq,hr,fun hs=>?_⟩
 unfold codeK at H;rw[if_pos hq,if_pos hs]at H
 cases H
theorem du {s ra rb:Int} (h:rollB s ra rb=true):∃a b:Nat,ra=a/\rb=b/\1<=a/\(a:Int)<=s/\1<=b/\b<=a:=by
 have:=of_decide_eq_true h
 exact⟨ra.toNat,rb.toNat,by omega,by omega,by omega,by omega,by omega,by omega⟩
def rollNo (a b:Nat):Nat:=a*(a-1) / 2+b-1
def rollOk:Bool:=(List.range 7).all fun s=>(List.range 7).all fun a=>(List.range 7).all fun b=>!(decide (1<=a)&&decide (a<=s)&&decide (1<=b)&&decide (b<=a))||(decide ((ae s).getD (rollNo a b) (0,0)=(a,b))&&decide (rollNo a b<(ae s).length))
theorem rollOk_yes:rollOk=true:=by decide +kernel
theorem rollNo_at {s a b:Nat} (hs:s<=6) (h1:1<=a) (h2:a<=s) (h3:1<=b) (h4:b<=a):(ae s).getD (rollNo a b) (0,0)=(a,b)/\rollNo a b<(ae s).length:=by
 have h:=rollOk_yes;unfold rollOk at h
 have h:=List.all_eq_true.1 (List.all_eq_true.1 (List.all_eq_true.1 h s (List.mem_range.2 (by omega))) a (List.mem_range.2 (by omega))) b (List.mem_range.2 (by omega))
 simpa[h1,h2,h3,h4]using h
theorem fO (p c h s ra rb:Int) (A:Option Addr) (n cp:Nat) (ps:List (List Int)) (w:World) (hx:PLx w A n ps) (hn:n<=1000):
  Calls Tryz.prog 168 #[.agg #[.int .i64 p,.int .i64 c,.int .i64 h,.int .i64 s],.agg #[.int .i64 ra,.int .i64 rb],.slice A n cp] w fun e w'=>e = .returned (.int .i64 (codeQ p c h s ra rb ps))/\Below w.heap.size w w':=by
 have HB:Hid (Below w.heap.size w ((w.alloc (.cells #[.int .i64 p,.int .i64 c,.int .i64 h,.int .i64 s] 25)).alloc (.cells #[.int .i64 ra,.int .i64 rb] 39))):=((Below.refl _ _).alloc (Nat.le_refl _) _).alloc (by simp) _
 have HX:=h_ (hx.below HB.out);have CT0:=h_ (iI p c h s A n cp ps _ HX.out hn)
 have CR0:=h_ fun (W:World)=>i9 p c h s ra rb W
 clear hx;obtain⟨k,hk⟩:∃k,k=codeT p c h s ps:=⟨_,rfl⟩;rw[<- hk]at CT0
 by_cases h3:k=0\/k=3
 focus
  have hv:isVar p c h s=true:=by
   cases hv:isVar p c h s with
   | true=>rfl
   | false=>rw[fN hv]at hk;omega
  rcases hro:rollB s ra rb with _|_
  focus
   have HR:Hid (codeQ p c h s ra rb ps=2):=by unfold Hid codeQ;rw[<- hk,hro,if_pos ⟨h3,rfl⟩]
   have CR:Hid (∀W:World,Calls Tryz.prog 113 #[.agg #[.int .i64 p,.int .i64 c,.int .i64 h,.int .i64 s],.agg #[.int .i64 ra,.int .i64 rb]] W fun e w'=>e = .returned (.bool false)/\Below W.heap.size W w'):=fun W=>by have:=CR0.out W;rwa [hv,hro]at this
   refine ?za
  rotate_left
  focus
   have HR:Hid (codeQ p c h s ra rb ps=k):=by unfold Hid;rw[iw hro,hk]
   have CR:Hid (∀W:World,Calls Tryz.prog 113 #[.agg #[.int .i64 p,.int .i64 c,.int .i64 h,.int .i64 s],.agg #[.int .i64 ra,.int .i64 rb]] W fun e w'=>e = .returned (.bool true)/\Below W.heap.size W w'):=fun W=>by have:=CR0.out W;rwa [hv,hro]at this
   refine ?zb
 rotate_left 2
 ·have HR:Hid (codeQ p c h s ra rb ps=k):=by unfold Hid codeQ;rw[<- hk,if_neg fun h=>h3 h.1]
  have b1:(k == 0)=false:=by simp;omega
  have b2:(k == 3)=false:=by simp;omega
  clear CR0 hk h3
  go_enter Tryz.func168,Tryz.ntmps168
  go_wp2_with (go_at_call 73;(with_reducible refine (more_first CT0.out).mono ?_);rintro e w' ⟨rfl,t,rfl⟩)
  go_ret
  exact⟨by rw[HR.out];rfl,by first|exact blw HB.out (Nat.le_refl _)|exact HB.out⟩
 case za|zb=>
  clear CR0 hk hv hro
  rcases h3 with rfl|rfl
  all_goals
   go_enter Tryz.func168,Tryz.ntmps168
   go_wp2_with (first
    | (go_at_call 73;(with_reducible refine (more_first CT0.out).mono ?_);rintro e w' ⟨rfl,t,rfl⟩)
    | (go_at_call 113;(with_reducible refine (more_call (CR.out _)).mono ?_);rintro e w' ⟨rfl,tr,rfl⟩))
   go_ret
   exact⟨by rw[HR.out];rfl,by first|exact blw HB.out (Nat.le_refl _)|exact HB.out⟩
theorem dT (p c h s ra rb:Int) (A B:Option Addr) (n m ca cb:Nat) (own other:List Int) (w:World) (hA:SL w A n own) (hB:SL w B m other):
  Calls Tryz.prog 82 #[.agg #[.int .i64 p,.int .i64 c,.int .i64 h,.int .i64 s],.agg #[.int .i64 ra,.int .i64 rb],.slice A n ca,.slice B m cb] w fun e w'=>e = .returned (.int .i64 (codeK p c h s ra rb own other true))/\Below w.heap.size w w':=by
 have HB:Hid (Below w.heap.size w ((w.alloc (.cells #[.int .i64 p,.int .i64 c,.int .i64 h,.int .i64 s] 25)).alloc (.cells #[.int .i64 ra,.int .i64 rb] 39))):=((Below.refl _ _).alloc (Nat.le_refl _) _).alloc (by simp) _
 have HA0:=h_ (hA.below HB.out);have HB0:=h_ (hB.below HB.out);have HAL:=h_ hA.1;have HBL:=h_ hB.1
 have CT:=h_ (fO p c h s ra rb (some ⟨w.heap.size+1+1,0,none⟩) 2 2 [own,other] _ (by have:=plx_two (ca:=ca) (cb:=cb) HA0.out HB0.out 26;simpa using this) (by omega))
 have HB1:Hid (Below w.heap.size w (((w.alloc (.cells #[.int .i64 p,.int .i64 c,.int .i64 h,.int .i64 s] 25)).alloc (.cells #[.int .i64 ra,.int .i64 rb] 39)).alloc (.cells #[.slice A n ca,.slice B m cb] 26))):=HB.out.alloc (by simp;omega) _
 have HX:=h_ (HA0.out.alloc (.cells #[.slice A n ca,.slice B m cb] 26));have HY:=h_ (HB0.out.alloc (.cells #[.slice A n ca,.slice B m cb] 26));clear hA hB HA0 HB0 HB
 by_cases hq:codeQ p c h s ra rb [own,other]=0
 focus
  have ht:codeT p c h s [own,other]=0:=by
   unfold codeQ at hq
   split at hq
   ·cases hq
   ·exact hq
  obtain⟨hv,hp1,hp2,hN⟩:=de ht;have hvv:=aw hv
  obtain⟨c',hc'⟩:∃c':Nat,c=c':=⟨c.toNat,by omega⟩
  obtain⟨h',hh'⟩:∃h':Nat,h=h':=⟨h.toNat,by omega⟩
  rw[hc',hh']at hp1 hp2;have HP1:=ba hp1;have HP2:=ba hp2
  have HK:Hid (codeK p c h s ra rb own other true=if own.sum=0\/other.sum=0 then 5 else 0):=by
   unfold Hid codeK;rw[if_pos hq]
   by_cases h1:own.sum=0<;>by_cases h2:other.sum=0<;>simp[h1,h2]
  have TOA:=h_ fun (W:World) (hx:SL W A n own)=>dZ A n ca own W hx HP1.2.1 (by have:=HP1.2.2;omega) (by have:=HP1.1;have:=HAL.out;omega)
  have TOB:=h_ fun (W:World) (hx:SL W B m other)=>dZ B m cb other W hx HP2.2.1 (by have:=HP2.2.2;omega) (by have:=HP2.1;have:=HBL.out;omega)
  rw[hq]at CT;clear hq ht hv hp1 hp2 hN hvv HP1 HP2 hc' hh'
  by_cases hz1:own.sum=0
  focus
   have b1:(own.sum == 0)=true:=by simp[hz1]
   have HR:Hid (codeK p c h s ra rb own other true=5):=by unfold Hid;rw[HK.out,if_pos (.inl hz1)]
   clear hz1 HK
   refine ?zd
  rotate_left
  focus
   have b1:(own.sum == 0)=false:=by simp[hz1]
   by_cases hz2:other.sum=0
   focus
    have b2:(other.sum == 0)=true:=by simp[hz2]
    have HR:Hid (codeK p c h s ra rb own other true=5):=by unfold Hid;rw[HK.out,if_pos (.inr hz2)]
    refine ?za
   rotate_left
   focus
    have b2:(other.sum == 0)=false:=by simp[hz2]
    have HR:Hid (codeK p c h s ra rb own other true=0):=by unfold Hid;rw[HK.out,if_neg (by rintro (h|h);exact hz1 h;exact hz2 h)]
    refine ?zb
 rotate_left 3
 focus
  have HR:Hid (codeK p c h s ra rb own other true=codeQ p c h s ra rb [own,other]):=by
   unfold Hid codeK;rw[if_neg hq]
  generalize codeQ p c h s ra rb [own,other]=k at *
  have b0:(k != 0)=true:=by simp[hq]
  clear hq
  refine ?zc
 rotate_left
 case' za|zb=>
  clear hz1 hz2 HK
 case' zc|zd|za|zb=>
  go_enter Tryz.func82,Tryz.ntmps82
  go_wp2_with (fail)
  refine CT.out.mono ?_
  rintro e w1 ⟨rfl,hb1⟩
 case' zc=>
  have HB2:=h_ (HB1.out.trans (hb1.mono HB1.out.size));clear CT hb1 HB1 HX HY
  go_wp2_with (fail)
  go_ret
 case' zd=>
  have HB2:=h_ (HB1.out.trans (hb1.mono HB1.out.size));have HX2:=h_ (HX.out.below hb1);clear CT hb1 HB1 HX HY
  go_wp2_with (go_at_call 74;refine (TOA.out _ HX2.out).mono ?_;rintro e w' ⟨rfl,rfl⟩)
  go_ret
 case' za|zb=>
  have HB2:=h_ (HB1.out.trans (hb1.mono HB1.out.size));have HX2:=h_ (HX.out.below hb1);have HY2:=h_ (HY.out.below hb1);clear CT hb1 HB1 HX HY
  go_wp2_with (first|(go_at_call_of 74 A;refine (TOA.out _ HX2.out).mono ?_;rintro e w' ⟨rfl,rfl⟩)|(go_at_call_of 74 B;refine (TOB.out _ HY2.out).mono ?_;rintro e w' ⟨rfl,rfl⟩))
  go_ret
 case zc|zd|za|zb=>
  exact⟨by rw[HR.out];rfl,by first|exact blw HB2.out (Nat.le_refl _)|exact HB2.out⟩
theorem eO (p c h s:Int) (a b:Nat) (w:World) (hv:isVar p c h s=true) (ha1:1<=a) (ha2:(a:Int)<=s) (hb1:1<=b) (hb2:b<=a):
  Calls Tryz.prog 83 #[.agg #[.int .i64 p,.int .i64 c,.int .i64 h,.int .i64 s],.agg #[.int .i64 a,.int .i64 b]] w fun e w'=>e = .returned (.int .i64 (rollNo a b:Nat))/\Below w.heap.size w w':=by
 have HB:Hid (Below w.heap.size w ((w.alloc (.cells #[.int .i64 p,.int .i64 c,.int .i64 h,.int .i64 s] 25)).alloc (.cells #[.int .i64 a,.int .i64 b] 39))):=((Below.refl _ _).alloc (Nat.le_refl _) _).alloc (by simp) _
 have hs:=aw hv
 have hro:rollB s a b=true:=decide_eq_true (by omega)
 have CR:Hid (∀W:World,Calls Tryz.prog 113 #[.agg #[.int .i64 p,.int .i64 c,.int .i64 h,.int .i64 s],.agg #[.int .i64 a,.int .i64 b]] W fun e w'=>e = .returned (.bool true)/\Below W.heap.size W w'):=fun W=>by have:=i9 p c h s a b W;rwa [hv,hro]at this
 obtain⟨x,hx⟩:∃x:Int,x=(a:Int):=⟨_,rfl⟩;rw[<- hx]at CR HB ⊢
 have hxx:x=1\/x=2\/x=3\/x=4\/x=5\/x=6:=by omega
 clear hv hs hro ha2
 have HX:Hid (a=x.toNat):=by unfold Hid;omega
 have hb3:(0:Int)<=(b:Int):=by omega
 have hb4:(b:Int)<=6:=by omega
 have HB2:=h_ hb2;clear hx hb2 ha1
 rcases hxx with rfl|rfl|rfl|rfl|rfl|rfl
 all_goals
  go_enter Tryz.func83,Tryz.ntmps83
  go_wp2_with (go_at_call 113;(with_reducible refine (more_first (CR.out _)).mono ?_);rintro e w' ⟨rfl,t,rfl⟩)
  go_ret
  have hx:=HX.out
  exact⟨jt (by rw[hx];simp[rollNo];omega),by first|exact blw HB.out (Nat.le_refl _)|exact HB.out⟩
end Go.Proofs.YtkaiilmgemaljaaGreat

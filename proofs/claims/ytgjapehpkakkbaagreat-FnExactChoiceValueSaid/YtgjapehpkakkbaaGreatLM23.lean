/- Contracts of the program's equities for money. There are no conditions. -/
import Derived.Test.YtgjapehpkakkbaaGreatLM14
import Derived.Test.YtgjapehpkakkbaaGreatLM22
import Derived.Test.YtgjapehpkakkbaaGreatLJ2
set_option linter.unusedVariables false
set_option linter.unusedSimpArgs false
namespace Go.Proofs.YtgjapehpkakkbaaGreat
open Go.RowKit Mo Ps Ra Ex
theorem codeL_small (p c h s m:Int) (own other:List Int) (v o:Int) (more:Bool):0≤codeL p c h s m own other v o more∧codeL p c h s m own other v o more≤3:=by
 unfold codeL
 split
 ·split
  ·split<;>omega
  ·omega
 ·omega
def moG (p:Int) (c h s K:Nat) (bv j:Bool) (A B:Option Addr) (ca cb:Nat) (v o:Int) (ov:Option E) (fl:Bool) (i:Nat) (u:Value) (lo hi:Nat) (W:World):Prop:=
 match i with
 | 0=>u = .agg #[.int .i64 p,.int .i64 c,.int .i64 h,.int .i64 s]
 | 1=>u = .agg #[.int .i64 (two K),.bool bv,.bool j]
 | 2=>∃m:MT,m.t.p=p∧m.t.c=c∧m.t.h=h∧m.t.s=s∧m.K=K∧m.bv=bv∧u = .pointer (some ⟨m.bm,0,none⟩)∧m.Ok∧(fl=false→MonI m m.S W∧∀k,m.S k→lo≤k∧k<hi)
 | 3=>u = .slice A h ca
 | 4=>u = .slice B h cb
 | 5=>u = .agg #[.int .i64 v,.int .i64 o]
 | 6=>u = .tuple #[exV ov,.bool ov.isSome]
 | 7=>u = .tuple #[exV ov,.bool ov.isSome]
 | 8=>u=exV ov
 | 9=>u = .bool ov.isSome
 | _=>u = .pointer (some ⟨lo,0,none⟩)∧lo<hi∧(W.cell? ⟨lo,0,none⟩=some (.int .i64 0)∧W.cell? ⟨lo,1,none⟩=some (.int .i64 0))∧∀j,j<2→W.frozen? ⟨lo,j,none⟩=false
theorem moG_stab {w:World} {p:Int} {c h s K:Nat} {bv j:Bool} {A B:Option Addr} {ca cb:Nat} {v o:Int} {ov:Option E} (fl:Bool) (i:Nat) (u:Value) (lo hi:Nat) (W W':World) (_:w.heap.size≤lo) (_:hi≤W.heap.size) (hg:moG p c h s K bv j A B ca cb v o ov fl i u lo hi W) (hb:Below W.heap.size W W'):moG p c h s K bv j A B ca cb v o ov fl i u lo hi W':=by
 unfold moG at *
 split at hg<;>first
  | exact hg
  | (obtain ⟨m, h1, h2, h3, h4, h5, h6, h7, h8, h9⟩ := hg
     exact ⟨m, h1, h2, h3, h4, h5, h6, h7, h8, fun hf => ⟨(h9 hf).1.below hb, (h9 hf).2⟩⟩)
  | (obtain ⟨h1, h2, ⟨h3, h4⟩, h5⟩ := hg
     exact ⟨h1, h2, ⟨keep_cell h3 hb, keep_cell h4 hb⟩, fun j hj => (hb.frozen (p := ⟨lo, j, none⟩) (World.block_lt_of_cell? W ⟨lo, 0, none⟩ h3)).trans (h5 j hj)⟩)
theorem moG_conv {w:World} {p:Int} {c h s K:Nat} {bv j:Bool} {A B:Option Addr} {ca cb:Nat} {v o:Int} {ov:Option E} (i:Nat) (u:Value) (lo hi:Nat) (W W':World) (_:w.heap.size≤lo) (_:hi≤W.heap.size) (hg:moG p c h s K bv j A B ca cb v o ov false i u lo hi W) (hf:i≠2→Frm (fun k=>w.heap.size≤k∧¬(lo≤k∧k<hi)) W W'):moG p c h s K bv j A B ca cb v o ov true i u lo hi W':=by
 unfold moG at *
 split at hg<;>first
  | exact hg
  | (obtain ⟨m, h1, h2, h3, h4, h5, h6, h7, h8, h9⟩ := hg
     exact ⟨m, h1, h2, h3, h4, h5, h6, h7, h8, fun hx => by cases hx⟩)
  | (obtain ⟨h1, h2, ⟨h3, h4⟩, h5⟩ := hg
     have hf' := hf (by assumption)
     have hn : ¬ (w.heap.size ≤ lo ∧ ¬ (lo ≤ lo ∧ lo < hi)) := fun hx => hx.2 ⟨Nat.le_refl _, h2⟩
     exact ⟨h1, h2, ⟨hf'.cell' h3 hn, hf'.cell' h4 hn⟩, fun j hj => (frm_froz hf' (World.block_lt_of_cell? W ⟨lo, 0, none⟩ h3) hn).trans (h5 j hj)⟩)
theorem codeM_ok {p c h s m:Int} {own other:List Int} {v o:Int} {more:Bool} (H:codeM p c h s m own other v o more=0):codeL p c h s m own other v o more=0∧own.sum≠0∧other.sum≠0:=by
 unfold codeM at H
 by_cases h0:codeL p c h s m own other v o more=0
 ·rw[if_pos h0]at H
  by_cases h1:own.sum=0∨other.sum=0
  ·rw[if_pos h1]at H;cases H
  ·exact⟨h0,fun h=>h1 (.inl h),fun h=>h1 (.inr h)⟩
 ·rw[if_neg h0]at H;exact absurd H h0
end Go.Proofs.YtgjapehpkakkbaaGreat
/- Plain facts: every number below the count is the number of a position. No program is in sight; there are no conditions beyond those that each states. -/
import Derived.Test.YtkaiilmgemaljaaGreatJZp
set_option linter.unusedVariables false
set_option linter.unusedSimpArgs false
namespace Go.Proofs.YtkaiilmgemaljaaGreat.Ps
theorem sumW_shift (i l:Nat):∀x,sumW i (l+1) (x+1)=wys i (l+1)+sumW i l x
 | 0=>by simp[sumW]
 | x + 1 => by
   rw [sumW_succ, sumW_shift i l x, sumW_succ, show l + 1 - (x + 1) = l - x by omega]
   omega
theorem numT_sur:∀(h left n:Nat),n<wys h left→∃l:List Int,l.length=h∧(∀x∈l,0≤x)∧l.sum≤left∧numT l left=n:=by
 intro h
 induction h with
 | zero =>
   intro left n hn
   rw [wys_zero] at hn
   exact ⟨[], rfl, (fun x hx => by cases hx), by simp, by simp [numT]; omega⟩
 | succ h ih =>
   have zero : ∀ left n, n < wys h left → ∃ l : List Int, l.length = h + 1 ∧ (∀ x ∈ l, 0 ≤ x) ∧ l.sum ≤ left ∧ numT l left = n := by
     intro left n hn
     obtain ⟨l, h1, h2, h3, h4⟩ := ih left n hn
     refine ⟨0 :: l, by simp [h1], fun x hx => ?_, by simpa using h3, ?_⟩
     · rcases List.mem_cons.1 hx with rfl | hx
       · omega
       · exact h2 x hx
     · rw [numT_cons]
       simpa [sumW] using h4
   intro left
   induction left with
   | zero => intro n hn; rw [wys_succ_zero] at hn; exact zero 0 n hn
   | succ left ih2 =>
     intro n hn
     rw [wys_succ] at hn
     by_cases hw : n < wys h (left + 1)
     · exact zero _ n hw
     · obtain ⟨l, h1, h2, h3, h4⟩ := ih2 (n - wys h (left + 1)) (by omega)
       cases l with
       | nil => simp at h1
       | cons x r =>
         have hx := h2 x (by simp)
         refine ⟨(x + 1) :: r, by simpa using h1, fun y hy => ?_, ?_, ?_⟩
         · rcases List.mem_cons.1 hy with rfl | hy
           · omega
           · exact h2 y (by simp [hy])
         · simp only [List.sum_cons] at h3 ⊢
           omega
         · rw [numT_cons] at h4 ⊢
           have hl : r.length = h := by simpa using h1
           rw [hl] at h4 ⊢
           rw [show (x + 1).toNat = x.toNat + 1 by omega, sumW_shift, show left + 1 - (x.toNat + 1) = left - x.toNat by omega]
           omega
theorem num_sur {h c n:Nat} (hn:n<wys h c):∃p,PosP h c p∧num c p=n:=by
 obtain⟨l,h1,h2,h3,h4⟩:=numT_sur h c n hn
 refine⟨l.reverse,⟨by simp[h1],fun x hx=>h2 x (by simpa using hx),by rw[List.sum_reverse];exact h3⟩,?_⟩
 unfold num;rw[List.reverse_reverse]
 exact h4
end Go.Proofs.YtkaiilmgemaljaaGreat.Ps

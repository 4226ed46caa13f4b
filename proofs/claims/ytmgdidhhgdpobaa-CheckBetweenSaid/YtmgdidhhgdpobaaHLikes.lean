/- Likely's number: the first greatest one. -/
import Derived.Test.YtmgdidhhgdpobaaHLike
import Derived.Test.YtmgdidhhgdpobaaHBets
namespace Go.Proofs.Ytmgdidhhgdpobaa.Hand
set_option linter.unusedVariables false
set_option linter.unusedSimpArgs false
open Go.RowKit Go.Proofs.YtmgdidhhgdpobaaW.PrintWords Go.Proofs.YtmgdidhhgdpobaaW.PrintLast

theorem likeN_first (a s f : Nat) (hs : s ≤ a) (hf : f ≤ s) : ∀ n : Nat, n ≤ a → ∃ k : Nat, k ≤ n ∧ likeN (a : Int) (s : Int) (f : Int) (n + 1) = ((k : Int), ((JJ a s f k : Nat) : Int)) ∧ (∀ v, v ≤ n → JJ a s f v ≤ JJ a s f k) ∧ (∀ v, v < k → JJ a s f v < JJ a s f k)
  | 0, h => by
    refine ⟨0, Nat.le_refl 0, ?_, fun v hv => by rw [show v = 0 by omega]; exact Nat.le_refl _, fun v hv => by omega⟩
    have e : justN (a : Int) ((0 : Nat) : Int) (s : Int) (f : Int) = ((JJ a s f 0 : Nat) : Int) := justN_nat a 0 s f (by omega) hf
    show (if (likeN (a : Int) (s : Int) (f : Int) 0).2 < justN (a : Int) ((0 : Nat) : Int) (s : Int) (f : Int) then (((0 : Nat) : Int), justN (a : Int) ((0 : Nat) : Int) (s : Int) (f : Int)) else _) = _
    have hlt : (likeN (a : Int) (s : Int) (f : Int) 0).2 < ((JJ a s f 0 : Nat) : Int) := by show (-1 : Int) < _; omega
    rw [e, if_pos hlt]
  | n + 1, h => by
    obtain ⟨k, h1, h2, h3, h4⟩ := likeN_first a s f hs hf n (by omega)
    have e : justN (a : Int) ((n + 1 : Nat) : Int) (s : Int) (f : Int) = ((JJ a s f (n + 1) : Nat) : Int) := justN_nat a (n + 1) s f (by omega) hf
    have hl : likeN (a : Int) (s : Int) (f : Int) (n + 1 + 1) = if (likeN (a : Int) (s : Int) (f : Int) (n + 1)).2 < justN (a : Int) ((n + 1 : Nat) : Int) (s : Int) (f : Int) then (((n + 1 : Nat) : Int), justN (a : Int) ((n + 1 : Nat) : Int) (s : Int) (f : Int)) else likeN (a : Int) (s : Int) (f : Int) (n + 1) := rfl
    rw [hl, h2, e]
    by_cases hlt : JJ a s f k < JJ a s f (n + 1)
    · rw [if_pos (show ((JJ a s f k : Nat) : Int) < ((JJ a s f (n + 1) : Nat) : Int) by omega)]
      refine ⟨n + 1, Nat.le_refl _, rfl, fun v hv => ?_, fun v hv => ?_⟩
      · by_cases e : v = n + 1
        · subst e; exact Nat.le_refl _
        · have := h3 v (by omega); omega
      · have := h3 v (by omega); omega
    · rw [if_neg (show ¬ ((JJ a s f k : Nat) : Int) < ((JJ a s f (n + 1) : Nat) : Int) by omega)]
      refine ⟨k, by omega, rfl, fun v hv => ?_, h4⟩
      by_cases e : v = n + 1
      · subst e; omega
      · exact h3 v (by omega)
end Go.Proofs.Ytmgdidhhgdpobaa.Hand

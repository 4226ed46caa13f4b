/- The reference's owners, and rows of questions. -/
import Derived.Test.YtbhcchhhpmlpmaaMD
import Derived.Test.YtbhcchhhpmlpmaaPrU2
namespace Go.Proofs.Ytbhcchhhpmlpmaa.Hand
set_option linter.unusedVariables false
set_option linter.unusedSimpArgs false
open Go.RowKit Go.Proofs.YtbhcchhhpmlpmaaW.PrintWords Go.Proofs.YtbhcchhhpmlpmaaW.PrintLast Go.Proofs.YtbhcchhhpmlpmaaW.PrintMore Go.Proofs.Ytbhcchhhpmlpmaa.PrA Go.Proofs.Ytbhcchhhpmlpmaa.PrR Go.Proofs.Ytbhcchhhpmlpmaa.PrU

/-- are so many numbers, from one on, good? -/
def allFrom (p : Nat → Bool) : Nat → Nat → Bool
  | 0, _ => true
  | m + 1, i => p i && allFrom p m (i + 1)
theorem allFrom_iff {p : Nat → Bool} : ∀ {m i : Nat}, allFrom p m i = true ↔ ∀ j, i ≤ j → j < i + m → p j = true
  | 0, i => by simp [allFrom]; intro j h1 h2; omega
  | m + 1, i => by
    rw [allFrom, Bool.and_eq_true, allFrom_iff]
    constructor
    · intro ⟨h1, h2⟩ j h3 h4
      by_cases e : j = i
      · rw [e]; exact h1
      · exact h2 j (by omega) (by omega)
    · intro h
      exact ⟨h i (by omega) (by omega), fun j h1 h2 => h j (by omega) (by omega)⟩
theorem own_is (l : List Int) (x : Int) : (decide (0 ≤ x) && decide (x < (l.length : Int))) = !outB 0 ((l.length : Int) - 1) x := by
  unfold outB; rw [Bool.eq_iff_iff]; simp; omega
theorem refOwner_is (a0 a1 : Int) (l : List Int) (x : Int) : peaveyref01_IsOwner.f a0 a1 l x = some (!outB 0 ((l.length : Int) - 1) x) := by
  unfold peaveyref01_IsOwner.f
  rw [← own_is]
  by_cases h : x ≥ 0
  · rw [if_pos h, decide_eq_true (show (0 : Int) ≤ x from h)]; rfl
  · rw [if_neg h, decide_eq_false (show ¬ (0 : Int) ≤ x from h)]; rfl

end Go.Proofs.Ytbhcchhhpmlpmaa.Hand

/- MarkFrees: which marks are free is what the reference says, or the error. -/
import Derived.Test.YtbhcchhhpmlpmaaPfrs1
import Derived.Test.YtbhcchhhpmlpmaaHRefF
namespace Go.Proofs.Ytbhcchhhpmlpmaa.Pure
set_option linter.unusedVariables false
set_option linter.unusedSimpArgs false
open Go.RowKit Go.Proofs.Ytbhcchhhpmlpmaa.Pfrs Go.Proofs.Ytbhcchhhpmlpmaa.PrR Go.Proofs.Ytbhcchhhpmlpmaa.PrT Go.Proofs.Ytbhcchhhpmlpmaa.PrV Go.Proofs.Ytbhcchhhpmlpmaa.PrA Go.Proofs.Ytbhcchhhpmlpmaa.PrC Go.Proofs.Ytbhcchhhpmlpmaa.Hand Go.Proofs.YtbhcchhhpmlpmaaW.PrintWords Go.Proofs.YtbhcchhhpmlpmaaW.PrintLast

theorem wide_is (a0 a1 : Int) (l : List Int) (m : Int) {k : Nat} (hk : 20 ≤ k) : peaveylaw01_wide.f k a0 a1 l m = some (decide (officeN a0 a1 l = 0) && decide (a0 > m)) := by
  unfold peaveylaw01_wide.f
  rw [refOffice_is a0 a1 l hk, Option.bind_some]
  by_cases ho : officeN a0 a1 l = 0
  · rw [if_pos ho, decide_eq_true ho, Bool.true_and]
  · rw [if_neg ho, decide_eq_false ho, Bool.false_and]
theorem free_count (a0 a1 : Int) (l : List Int) {p : List Int × Int} (h : mark_Free.f a0 a1 l = some p) : p.1.length ≤ 1023 := by
  unfold mark_Free.f at h
  have h := (Option.some.inj h).symm
  by_cases ho : officeN a0 a1 l ≠ 0
  · rw [if_pos ho] at h; rw [h]; simp
  · rw [if_neg ho] at h
    have hz := office_zero (by omega : officeN a0 a1 l = 0)
    have := allN_lt hz.2.1
    have := freeTo_len a1 l (allN a0).toNat
    rw [h]; show (freeTo a1 l (allN a0).toNat).length ≤ 1023; omega
theorem MarkFrees (a0 a1 : Int) (l : List Int) (_ : (Lit.int .i64 a0).wf = true) (_ : (Lit.int .i64 a1).wf = true) (_ : l.length ≤ maxLen) (_ : ∀ x ∈ l, (Lit.int .i64 x).wf = true) :
    ∃ k, peaveylaw01_MarkFrees.f k a0 a1 l = some true := by
  refine ⟨3000, ?_⟩
  unfold peaveylaw01_MarkFrees.f
  have hj : ∀ b, peaveylaw01_MarkFrees.j0 3000 b a0 a1 l = some true := by
    intro b
    rw [peaveylaw01_MarkFrees.j0, works_k 2999 (by omega)]
    cases b
    · obtain ⟨p, hp⟩ : ∃ p, mark_Free.f a0 a1 l = some p := ⟨_, rfl⟩
      rw [if_neg (by simp), refFree_is a0 a1 l (by omega), hp, Option.bind_some, Option.bind_some, ints_is _ _ (by have := free_count a0 a1 l hp; omega) (by have := free_count a0 a1 l hp; omega), Option.bind_some, decide_eq_true rfl, if_pos rfl, if_pos rfl]; rfl
    · rw [if_pos rfl]; rfl
  rw [great_is, Option.bind_some]
  by_cases hg : 20 < l.length
  · rw [if_pos (decide_eq_true hg)]; exact hj true
  · rw [if_neg (by simp; omega), wide_is a0 a1 l 8 (by omega), Option.bind_some]; exact hj _
end Go.Proofs.Ytbhcchhhpmlpmaa.Pure

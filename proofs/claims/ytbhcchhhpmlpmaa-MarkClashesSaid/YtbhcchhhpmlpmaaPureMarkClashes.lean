/- MarkClashes: for any office and any two owners, the clash of two marks, the first two that clash, and the margin are what the reference says. -/
import Derived.Test.YtbhcchhhpmlpmaaPcla1
import Derived.Test.YtbhcchhhpmlpmaaHRefC
namespace Go.Proofs.Ytbhcchhhpmlpmaa.Pure
set_option linter.unusedVariables false
set_option linter.unusedSimpArgs false
open Go.RowKit Go.Proofs.Ytbhcchhhpmlpmaa.Pcla Go.Proofs.Ytbhcchhhpmlpmaa.PrR Go.Proofs.Ytbhcchhhpmlpmaa.PrT Go.Proofs.Ytbhcchhhpmlpmaa.PrA Go.Proofs.Ytbhcchhhpmlpmaa.PrC Go.Proofs.Ytbhcchhhpmlpmaa.Hand Go.Proofs.YtbhcchhhpmlpmaaW.PrintWords Go.Proofs.YtbhcchhhpmlpmaaW.PrintLast

theorem MarkClashes (a0 a1 : Int) (l : List Int) (x y : Int) (_ : (Lit.int .i64 a0).wf = true) (_ : (Lit.int .i64 a1).wf = true) (_ : l.length ≤ maxLen) (_ : ∀ x ∈ l, (Lit.int .i64 x).wf = true) (_ : (Lit.int .i64 x).wf = true) (_ : (Lit.int .i64 y).wf = true) :
    ∃ k, peaveylaw01_MarkClashes.f k a0 a1 l x y = some true := by
  refine ⟨4000, ?_⟩
  unfold peaveylaw01_MarkClashes.f
  rw [great_is, works_k 4000 (by omega), Option.bind_some]
  by_cases hg : 20 < l.length
  · simp [hg]
  · obtain ⟨p, hp⟩ : ∃ p, mark_Clash.f a0 a1 l x y = some p := ⟨_, rfl⟩
    obtain ⟨q, hq⟩ : ∃ q, mark_Apart.f a0 a1 l = some q := ⟨_, rfl⟩
    obtain ⟨r, hr⟩ : ∃ r, mark_Margin.f a0 a1 l = some r := ⟨_, rfl⟩
    rw [refClash_is a0 a1 l x y (by omega), refApartF_is a0 a1 l (by omega), refMargin_is a0 a1 l (by omega), hp, hq, hr]
    simp [hg]
end Go.Proofs.Ytbhcchhhpmlpmaa.Pure

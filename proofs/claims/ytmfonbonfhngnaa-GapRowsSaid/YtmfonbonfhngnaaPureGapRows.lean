/- GapRows: rows and turnings are judged alike by the program and by the reference. -/
import Derived.Test.YtmfonbonfhngnaaGrow1
import Derived.Test.YtmfonbonfhngnaaHMono
import Derived.Test.YtmfonbonfhngnaaGE
namespace Go.Proofs.Ytmfonbonfhngnaa.Pure
set_option linter.unusedVariables false
set_option linter.unusedSimpArgs false
open Go.RowKit Go.Proofs.Ytmfonbonfhngnaa.Grow Go.Proofs.Ytmfonbonfhngnaa.PrA Go.Proofs.Ytmfonbonfhngnaa.PrR Go.Proofs.Ytmfonbonfhngnaa.PrL Go.Proofs.Ytmfonbonfhngnaa.Hand Go.Proofs.YtmfonbonfhngnaaW.PrintWords Go.Proofs.YtmfonbonfhngnaaW.PrintLast

theorem GapRows : peaveylaw03_GapRows.Pure := by
  intro l m t _ _ _ _ _ _ _
  refine ⟨5001, ?_⟩
  have key : ∀ b, peaveylaw03_GapRows.j0 5001 l m t b = some true := by
    intro b
    rw [peaveylaw03_GapRows.j0]
    cases b
    · rw [if_neg (by decide), refTurning_is l m t 5000 (by omega), refRow_is l 5000 (by omega), works_k, rowE_is, gap_CheckTurning.f]
      simp
    · rw [if_pos rfl, works_k]; rfl
  unfold peaveylaw03_GapRows.f peaveylaw03_great.f
  simp only [Option.bind_some, key]
  split <;> rfl
end Go.Proofs.Ytmfonbonfhngnaa.Pure

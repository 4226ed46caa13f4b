/- CheckTests: for any test and plan, the errors and the samples with which a plan tells wrongly are what the reference says. -/
import Derived.Test.YtmgdidhhgdpobaaPtests2
import Derived.Test.YtmgdidhhgdpobaaHRefs
namespace Go.Proofs.Ytmgdidhhgdpobaa.Pure
set_option linter.unusedVariables false
set_option linter.unusedSimpArgs false
open Go.RowKit Go.Proofs.Ytmgdidhhgdpobaa.Ptests Go.Proofs.Ytmgdidhhgdpobaa.PrR Go.Proofs.Ytmgdidhhgdpobaa.PrV Go.Proofs.Ytmgdidhhgdpobaa.PrT Go.Proofs.Ytmgdidhhgdpobaa.PrA Go.Proofs.Ytmgdidhhgdpobaa.Hand Go.Proofs.YtmgdidhhgdpobaaW.PrintWords Go.Proofs.YtmgdidhhgdpobaaW.PrintLast

theorem CheckTests (a0 a1 a2 a3 a4 a5 a6 p0 p1 : Int) (_ : (Lit.int .i64 a0).wf = true) (_ : (Lit.int .i64 a1).wf = true) (_ : (Lit.int .i64 a2).wf = true) (_ : (Lit.int .i64 a3).wf = true) (_ : (Lit.int .i64 a4).wf = true) (_ : (Lit.int .i64 a5).wf = true) (_ : (Lit.int .i64 a6).wf = true)
    (_ : (Lit.int .i64 p0).wf = true) (_ : (Lit.int .i64 p1).wf = true) : ∃ k, peaveylaw10_CheckTests.f k a0 a1 a2 a3 a4 a5 a6 p0 p1 = some true := by
  refine ⟨200, ?_⟩
  unfold peaveylaw10_CheckTests.f
  rw [sides_ref 200 (by omega), checkPlan_ref 200 (by omega), checkTest_is 199, checkTest_ref 199]
  obtain ⟨p, hp⟩ : ∃ p, check_Sides.f a0 a1 a2 a3 a4 a5 a6 p0 p1 = some p := ⟨_, rfl⟩
  obtain ⟨q, hq⟩ : ∃ q, check_CheckPlan.f a0 a1 a2 a3 a4 a5 a6 p0 p1 = some q := ⟨_, rfl⟩
  simp only [hp, hq, Option.bind_some, if_true, peaveylaw10_Works.f]
end Go.Proofs.Ytmgdidhhgdpobaa.Pure

/- CheckPlans: for any test, the right plan with the smallest sample, or the error, is what the reference says. -/
import Derived.Test.YtmgdidhhgdpobaaPplans2
import Derived.Test.YtmgdidhhgdpobaaHPlans
namespace Go.Proofs.Ytmgdidhhgdpobaa.Pure
set_option linter.unusedVariables false
set_option linter.unusedSimpArgs false
open Go.RowKit Go.Proofs.Ytmgdidhhgdpobaa.Pplans Go.Proofs.Ytmgdidhhgdpobaa.PrR Go.Proofs.Ytmgdidhhgdpobaa.PrP Go.Proofs.Ytmgdidhhgdpobaa.Hand Go.Proofs.YtmgdidhhgdpobaaW.PrintWords Go.Proofs.YtmgdidhhgdpobaaW.PrintLast

theorem CheckPlans (a0 a1 a2 a3 a4 a5 a6 : Int) (_ : (Lit.int .i64 a0).wf = true) (_ : (Lit.int .i64 a1).wf = true) (_ : (Lit.int .i64 a2).wf = true) (_ : (Lit.int .i64 a3).wf = true) (_ : (Lit.int .i64 a4).wf = true) (_ : (Lit.int .i64 a5).wf = true) (_ : (Lit.int .i64 a6).wf = true) :
    ∃ k, peaveylaw10_CheckPlans.f k a0 a1 a2 a3 a4 a5 a6 = some true := by
  obtain ⟨K, hK⟩ := plan_ref a0 a1 a2 a3 a4 a5 a6
  refine ⟨K, ?_⟩
  unfold peaveylaw10_CheckPlans.f
  rw [hK K (Nat.le_refl K)]
  obtain ⟨p, hp⟩ : ∃ p, check_Plan.f a0 a1 a2 a3 a4 a5 a6 = some p := ⟨_, rfl⟩
  simp only [hp, Option.bind_some, if_true, beq_self_eq_true, Bool.and_self, peaveylaw10_Works.f]
end Go.Proofs.Ytmgdidhhgdpobaa.Pure

/- The reference's tests, plans and sides are the plain ones. -/
import Derived.Test.YtmgdidhhgdpobaaHRare
import Derived.Test.YtmgdidhhgdpobaaHB
import Derived.Test.YtmgdidhhgdpobaaPrT1
namespace Go.Proofs.Ytmgdidhhgdpobaa.Hand
set_option linter.unusedVariables false
set_option linter.unusedSimpArgs false
open Go.RowKit Go.Proofs.YtmgdidhhgdpobaaW.PrintWords Go.Proofs.YtmgdidhhgdpobaaW.PrintLast Go.Proofs.Ytmgdidhhgdpobaa.PrR Go.Proofs.Ytmgdidhhgdpobaa.PrV Go.Proofs.Ytmgdidhhgdpobaa.PrT

theorem checkTest_ref (k : Nat) (a0 a1 a2 a3 a4 a5 a6 : Int) : peaveyref10_CheckTest.f (k + 1) a0 a1 a2 a3 a4 a5 a6 = some (testN a0 a1 a2 a3 a4 a5 a6) := by
  unfold peaveyref10_CheckTest.f
  simp only [within_is, Option.bind_some, peaveyref10_CheckTest.j0, isRisk_ref]
  unfold testN
  by_cases h1 : 1 ≤ a0 ∧ a0 ≤ 50
  · have e1 : outB 1 50 a0 = false := by rw [out_iff, Bool.not_eq_false']; exact decide_eq_true h1
    rw [e1, if_pos (by rfl)]
    by_cases h2 : a1 < 0
    · rw [if_pos h2, if_true, if_neg (by omega)]
    · rw [if_neg h2]
      by_cases h3 : a1 ≥ a2
      · rw [if_pos h3, if_true, if_neg (by omega)]
      · rw [if_neg h3]
        by_cases h4 : a2 > a0
        · rw [decide_eq_true h4, if_pos rfl, if_neg (by omega)]
        · rw [decide_eq_false h4, if_neg (by decide), if_pos (show 1 ≤ a0 ∧ a0 ≤ 50 ∧ 1 ≤ a2 ∧ a2 ≤ a0 ∧ 0 ≤ a1 ∧ a1 < a2 by omega)]
          cases riskOk a3 a4 <;> cases riskOk a5 a6 <;> rfl
  · have e1 : outB 1 50 a0 = true := by rw [out_iff, Bool.not_eq_true']; exact decide_eq_false h1
    rw [e1, if_neg (by decide), if_true, if_neg (by omega)]
theorem planned_ref (k : Nat) (a0 a1 a2 a3 a4 a5 a6 p0 p1 : Int) : peaveyref10_Planned.f (k + 1) a0 a1 a2 a3 a4 a5 a6 p0 p1 = some (openN a0 a1 a2 a3 a4 a5 a6 p0 p1) := by
  unfold peaveyref10_Planned.f openN
  simp only [checkTest_ref, within_is, Option.bind_some]
  by_cases h : testN a0 a1 a2 a3 a4 a5 a6 = 0
  · rw [if_pos h, if_pos h]
    unfold planOk
    cases outB 0 a0 p0 <;> cases outB 0 p0 p1 <;> rfl
  · rw [if_neg h, if_neg h]
theorem goodN_in {a0 a1 p0 p1 : Int} (h1 : 1 ≤ a0 ∧ a0 ≤ 50) (h2 : 0 ≤ a1 ∧ a1 ≤ a0) (h3 : 0 ≤ p0 ∧ p0 ≤ a0) (h4 : 0 ≤ p1 ∧ p1 ≤ p0) : 0 ≤ goodN a0 a1 p0 p1 ∧ goodN a0 a1 p0 p1 ≤ (binom a0.toNat p0.toNat : Int) ∧ (binom a0.toNat p0.toNat : Int) ≤ 1125899906842624 := by
  have := uptoN_bound (a := a0) (w := a1) (s := p0) (f := p1) h1.2 h2.1 h2.2 h4.1 h4.2
  unfold goodN
  omega
theorem sides_ref (k : Nat) (hk : 200 ≤ k) (a0 a1 a2 a3 a4 a5 a6 p0 p1 : Int) : peaveyref10_Sides.f k a0 a1 a2 a3 a4 a5 a6 p0 p1 = check_Sides.f a0 a1 a2 a3 a4 a5 a6 p0 p1 := by
  obtain ⟨k, rfl⟩ : ∃ j, k = j + 1 := ⟨k - 1, by omega⟩
  unfold peaveyref10_Sides.f check_Sides.f
  simp only [planned_ref, Option.bind_some]
  by_cases h : openN a0 a1 a2 a3 a4 a5 a6 p0 p1 = 0
  · rw [if_pos h, if_pos h]
    have t := test_in (open_zero h).1
    have p := plan_in (open_zero h).2
    have g := goodN_in (a0 := a0) (a1 := a1) (p0 := p0) (p1 := p1) (by omega) (by omega) (by omega) (by omega)
    rw [choices_is a0 p0 (by omega) _ (by omega), upto_is a0 a1 p0 p1 (by omega) (by omega) (by omega) (by omega) (by omega) (by omega) _ (by omega), upto_is a0 a2 p0 p1 (by omega) (by omega) (by omega) (by omega) (by omega) (by omega) _ (by omega)]
    simp only [Option.bind_some]
    rw [choN_in (by omega) (by omega)]
    have e : (binom a0.toNat p0.toNat : Int) - uptoN a0 a1 p0 p1 = goodN a0 a1 p0 p1 := rfl
    rw [e, wrap64_in (by omega)]
  · rw [if_neg h, if_neg h]
theorem checkPlan_ref (k : Nat) (hk : 200 ≤ k) (a0 a1 a2 a3 a4 a5 a6 p0 p1 : Int) : peaveyref10_CheckPlan.f k a0 a1 a2 a3 a4 a5 a6 p0 p1 = check_CheckPlan.f a0 a1 a2 a3 a4 a5 a6 p0 p1 := by
  obtain ⟨k, rfl⟩ : ∃ j, k = j + 1 := ⟨k - 1, by omega⟩
  unfold peaveyref10_CheckPlan.f check_CheckPlan.f
  simp only [planned_ref, Option.bind_some, sides_ref (k + 1) hk]
  by_cases h : openN a0 a1 a2 a3 a4 a5 a6 p0 p1 = 0
  · rw [if_pos h, if_pos h]
    have t := test_in (open_zero h).1
    have p := plan_in (open_zero h).2
    unfold check_Sides.f
    rw [if_pos h, choices_is a0 p0 (by omega) _ (by omega)]
    simp only [Option.bind_some, rare_ref]
    rw [choN_in (by omega) (by omega)]
    unfold rightB
    cases rareB (goodN a0 a1 p0 p1) (binom a0.toNat p0.toNat) a3 a4 <;> cases rareB (uptoN a0 a2 p0 p1) (binom a0.toNat p0.toNat) a5 a6 <;> rfl
  · rw [if_neg h, if_neg h]
end Go.Proofs.Ytmgdidhhgdpobaa.Hand

/- Samples and risks in natural numbers. -/
import Derived.Test.YtmgdidhhgdpobaaHMore
import Derived.Test.YtmgdidhhgdpobaaHD
import Derived.Test.YtmgdidhhgdpobaaHB
import Derived.Test.YtmgdidhhgdpobaaPrV1
namespace Go.Proofs.Ytmgdidhhgdpobaa.Hand
set_option linter.unusedVariables false
set_option linter.unusedSimpArgs false
open Go.RowKit Go.Proofs.YtmgdidhhgdpobaaW.PrintWords Go.Proofs.YtmgdidhhgdpobaaW.PrintLast Go.Proofs.Ytmgdidhhgdpobaa.PrR Go.Proofs.Ytmgdidhhgdpobaa.PrV

theorem isRisk_ref (n d : Int) : peaveyref10_IsRisk.f n d = some (riskOk n d) := by
  unfold peaveyref10_IsRisk.f riskOk
  by_cases h1 : d ≥ 1
  · by_cases h2 : d ≤ 1000
    · by_cases h3 : n ≥ 0
      · by_cases h4 : n < d
        · rw [if_pos h1, if_pos h2, if_pos h3, if_pos h4, wrap64_in (x := 2 * n) (by omega)]
          congr 1
          exact decide_eq_decide.2 ⟨fun h => ⟨h1, h2, h3, by omega⟩, fun h => by omega⟩
        · rw [if_pos h1, if_pos h2, if_pos h3, if_neg h4]
          congr 1
          exact (decide_eq_false (by omega)).symm
      · rw [if_pos h1, if_pos h2, if_neg h3]
        congr 1
        exact (decide_eq_false (by omega)).symm
    · rw [if_pos h1, if_neg h2]
      congr 1
      exact (decide_eq_false (by omega)).symm
  · rw [if_neg h1]
    congr 1
    exact (decide_eq_false (by omega)).symm
theorem rare_ref (n m num den : Int) : peaveyref10_Rare.f n m num den = some (rareB n m num den) := rfl
theorem uptoN_UU (a w s f : Nat) (h : w ≤ a) : uptoN (a : Int) (w : Int) (s : Int) (f : Int) = ((UU a s f w : Nat) : Int) := by
  unfold uptoN UU; simp only [Int.toNat_natCast]; rw [show ((a : Int) - (w : Int)).toNat = a - w by omega]
theorem justN_nat (a w s f : Nat) (h : w ≤ a) (h2 : f ≤ s) : justN (a : Int) (w : Int) (s : Int) (f : Int) = ((binom w f * binom (a - w) (s - f) : Nat) : Int) := by
  unfold justN; simp only [Int.toNat_natCast]; rw [show ((a : Int) - (w : Int)).toNat = a - w by omega, show ((s : Int) - (f : Int)).toNat = s - f by omega]
theorem UU_LL (a s f w : Nat) : UU a s f w = LL a s f w + binom w f * binom (a - w) (s - f) := rfl
theorem risk_nat {num den : Int} (h : riskOk num den = true) : ∃ n d : Nat, num = n ∧ den = d ∧ 2 * n < d ∧ d ≤ 1000 := by
  have := of_decide_eq_true h
  obtain ⟨n, rfl⟩ := Int.eq_ofNat_of_zero_le this.2.2.1
  obtain ⟨d, rfl⟩ := Int.eq_ofNat_of_zero_le (show 0 ≤ den by omega)
  exact ⟨n, d, rfl, rfl, by omega, by omega⟩
theorem rareB_nat (x m n d : Nat) (hx : x ≤ 1125899906842624) (hm : m ≤ 1125899906842624) (hd : d ≤ 1000) (hn : n ≤ 1000) : rareB (x : Int) (m : Int) (n : Int) (d : Int) = decide (x * d ≤ m * n) := by
  have h1 : x * d ≤ 1125899906842624 * 1000 := Nat.mul_le_mul hx hd
  have h2 : m * n ≤ 1125899906842624 * 1000 := Nat.mul_le_mul hm hn
  unfold rareB
  rw [← Int.natCast_mul, ← Int.natCast_mul, wrap64_in (by omega), wrap64_in (by omega)]
  exact decide_eq_decide.2 ⟨fun h => by omega, fun h => by omega⟩
end Go.Proofs.Ytmgdidhhgdpobaa.Hand

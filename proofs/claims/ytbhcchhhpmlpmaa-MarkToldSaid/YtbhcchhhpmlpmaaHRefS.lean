/- The reference's owners, in plain numbers. -/
import Derived.Test.YtbhcchhhpmlpmaaMD
import Derived.Test.YtbhcchhhpmlpmaaPrS1
namespace Go.Proofs.Ytbhcchhhpmlpmaa.Hand
set_option linter.unusedVariables false
set_option linter.unusedSimpArgs false
open Go.RowKit Go.Proofs.YtbhcchhhpmlpmaaW.PrintWords Go.Proofs.YtbhcchhhpmlpmaaW.PrintLast Go.Proofs.YtbhcchhhpmlpmaaW.PrintMore Go.Proofs.Ytbhcchhhpmlpmaa.PrA Go.Proofs.Ytbhcchhhpmlpmaa.PrR Go.Proofs.Ytbhcchhhpmlpmaa.PrS Go.Proofs.Ytbhcchhhpmlpmaa.PrC

theorem refOwners_loop {a0 a1 : Int} {l : List Int} (ho : officeN a0 a1 l = 0) (w : Nat) (hw : w < 1024) : ∀ (m i : Nat), i + m = l.length → ∀ k, m + 12 < k →
    peaveyref01_OwnersOf.l0 k (w : Int) (ownN a1 l w i) (i : Int) a0 a1 l = some (ownN a1 l w l.length)
  | 0, i, hi, k + 1, _ => by
    rw [peaveyref01_OwnersOf.l0, if_neg (by omega), show i = l.length by omega]
  | m + 1, i, hi, k + 1, hk => by
    have hlt : i < l.length := by omega
    have h12 := (office_zero ho).2.2.2.2.1
    have hlen := ownN_length a1 l w i
    have hn : ownN a1 l w (i + 1) = ownN a1 l w i ++ (if canBe w (mk l i) a1 then [(i : Int)] else []) := rfl
    rw [peaveyref01_OwnersOf.l0, if_pos (by omega), if_pos (by omega), mk_rd ho hlt, refCanBe_is w _ a1 hw (mk_lt ho hlt) (by omega), Option.bind_some, wsucc i (by omega)]
    have ih := refOwners_loop ho w hw m (i + 1) (by omega) k (by omega)
    rw [hn] at ih
    cases hc : canBe w (mk l i) a1
    · rw [hc] at ih
      rw [if_neg (by simp)]
      simpa using ih
    · rw [hc] at ih
      rw [if_pos rfl, if_pos (by omega)]
      simpa using ih
theorem refOwnersOf_is {a0 a1 : Int} {l : List Int} (ho : officeN a0 a1 l = 0) (w : Nat) (hw : w < 1024) {k : Nat} (hk : 30 ≤ k) : peaveyref01_OwnersOf.f k a0 a1 l (w : Int) = some (ownN a1 l w l.length) := by
  have h12 := (office_zero ho).2.2.2.2.1
  exact refOwners_loop ho w hw l.length 0 (by omega) k (by omega)
theorem refOwners_is (a0 a1 : Int) (l : List Int) (worn : Int) {k : Nat} (hk : 30 ≤ k) : peaveyref01_Owners.f k a0 a1 l worn = mark_Owners.f a0 a1 l worn := by
  unfold peaveyref01_Owners.f mark_Owners.f
  rw [refOffice_is a0 a1 l (by omega), Option.bind_some]
  by_cases ho : officeN a0 a1 l = 0
  · have hz := office_zero ho
    rw [if_pos ho, if_neg (show ¬ officeN a0 a1 l ≠ 0 from fun h => h ho)]
    by_cases c1 : worn < 0
    · rw [if_pos c1]
      have : outB 0 (allN a0) worn = true := by simp [outB, c1]
      rw [this]; rfl
    · rw [if_neg c1, refAll_is a1 l hz.1 hz.2.1, Option.bind_some]
      by_cases c2 : worn > allN a0
      · rw [if_pos c2]
        have : outB 0 (allN a0) worn = true := by simp [outB]; omega
        rw [this]; rfl
      · rw [if_neg c2]
        have h1 : outB 0 (allN a0) worn = false := by simp [outB]; omega
        have h2 := allN_lt hz.2.1
        obtain ⟨w, rfl⟩ := Int.eq_ofNat_of_zero_le (show 0 ≤ worn by omega)
        rw [h1, refOwnersOf_is ho w (by omega) hk, ownTo_is ho w (by omega) _ (Nat.le_refl _)]; rfl
  · rw [if_neg ho, if_pos (by simpa using ho)]; rfl

end Go.Proofs.Ytbhcchhhpmlpmaa.Hand

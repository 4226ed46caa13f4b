/- Are all numbers of a list in another one? -/
import Derived.Test.YtbhcchhhpmlpmaaHLaw0
import Derived.Test.YtbhcchhhpmlpmaaPrE1
namespace Go.Proofs.Ytbhcchhhpmlpmaa.Hand
set_option linter.unusedVariables false
set_option linter.unusedSimpArgs false
open Go.RowKit Go.Proofs.YtbhcchhhpmlpmaaW.PrintWords Go.Proofs.YtbhcchhhpmlpmaaW.PrintLast Go.Proofs.YtbhcchhhpmlpmaaW.PrintMore Go.Proofs.Ytbhcchhhpmlpmaa.PrA Go.Proofs.Ytbhcchhhpmlpmaa.PrR Go.Proofs.Ytbhcchhhpmlpmaa.PrC Go.Proofs.Ytbhcchhhpmlpmaa.PrE

theorem rd_at {l : List Int} {i : Nat} (h : i < l.length) : rd l (i : Int) = l[i] := by simp [rd, h]
theorem part_row (p q : List Int) (hp : p.length ≤ 10000) (hq : q.length ≤ 10000) (i : Nat) (hi : i < p.length) : ∀ (d j : Nat) (b : Bool), j + d = q.length → (b = true ∨ ∃ t, j ≤ t ∧ ∃ h : t < q.length, q[t] = p[i]) →
    ∀ k, peaveylaw01_part.l1 (d + 1 + k) p q (i : Int) b (j : Int) = peaveylaw01_part.l0 k p q ((i + 1 : Nat) : Int) := by
  intro d
  induction d with
  | zero =>
    intro j b hj hb k
    have hbt : b = true := by
      rcases hb with h | ⟨t, h1, h2, _⟩
      · exact h
      · omega
    rw [hbt, Nat.zero_add, Nat.add_comm 1 k, peaveylaw01_part.l1, if_neg (by omega), if_pos rfl, wsucc i (by omega)]
  | succ d ih =>
    intro j b hj hb k
    have hjl : j < q.length := by omega
    rw [show d + 1 + 1 + k = (d + 1 + k) + 1 by omega, peaveylaw01_part.l1, if_pos (by omega), wsucc j (by omega)]
    cases b
    · rw [if_neg (by simp), if_pos (by omega), if_pos (by omega), if_pos (by omega), rd_at hi, rd_at hjl]
      refine ih (j + 1) _ (by omega) ?_ k
      rcases hb with h | ⟨t, h1, h2, h3⟩
      · cases h
      · by_cases e : t = j
        · subst e; left; rw [h3]; simp
        · exact .inr ⟨t, by omega, h2, h3⟩
    · rw [if_pos rfl]
      exact ih (j + 1) true (by omega) (.inl rfl) k
theorem part_loop (p q : List Int) (hp : p.length ≤ 10000) (hq : q.length ≤ 10000) (h : ∀ x ∈ p, x ∈ q) : ∀ (e i : Nat), i + e = p.length → ∀ k, peaveylaw01_part.l0 (e * (q.length + 2) + 1 + k) p q (i : Int) = some true := by
  intro e
  induction e with
  | zero =>
    intro i hi k
    rw [Nat.zero_mul, Nat.zero_add, Nat.add_comm 1 k, peaveylaw01_part.l0, if_neg (by omega)]
  | succ e ih =>
    intro i hi k
    have hil : i < p.length := by omega
    obtain ⟨t, h1, h2⟩ := List.getElem_of_mem (h p[i] (List.getElem_mem hil))
    have hrow := part_row p q hp hq i hil q.length 0 false (by omega) (.inr ⟨t, by omega, h1, h2⟩) (e * (q.length + 2) + 1 + k)
    rw [show (e + 1) * (q.length + 2) + 1 + k = (q.length + 1 + (e * (q.length + 2) + 1 + k)) + 1 by rw [Nat.succ_mul]; omega, peaveylaw01_part.l0, if_pos (by omega)]
    exact hrow.trans (ih (i + 1) (by omega) k)
theorem part_is {p q : List Int} (hp : p.length ≤ 10000) (hq : q.length ≤ 10000) (h : ∀ x ∈ p, x ∈ q) {k : Nat} (hk : p.length * (q.length + 2) + 1 ≤ k) : peaveylaw01_part.f k p q = some true := by
  unfold peaveylaw01_part.f
  obtain ⟨j, rfl⟩ : ∃ j, k = p.length * (q.length + 2) + 1 + j := ⟨k - (p.length * (q.length + 2) + 1), by omega⟩
  exact part_loop p q hp hq h p.length 0 (by omega) j
end Go.Proofs.Ytbhcchhhpmlpmaa.Hand

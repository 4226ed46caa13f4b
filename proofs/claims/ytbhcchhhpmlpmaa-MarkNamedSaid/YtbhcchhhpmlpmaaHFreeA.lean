/- Free marks as a list. -/
import Derived.Test.YtbhcchhhpmlpmaaHLaws
import Derived.Test.YtbhcchhhpmlpmaaMB
namespace Go.Proofs.Ytbhcchhhpmlpmaa.Hand
set_option linter.unusedVariables false
set_option linter.unusedSimpArgs false
open Go.RowKit Go.Proofs.YtbhcchhhpmlpmaaW.PrintWords Go.Proofs.YtbhcchhhpmlpmaaW.PrintLast Go.Proofs.YtbhcchhhpmlpmaaW.PrintMore Go.Proofs.Ytbhcchhhpmlpmaa.PrA Go.Proofs.Ytbhcchhhpmlpmaa.PrR Go.Proofs.Ytbhcchhhpmlpmaa.PrC

/-- clashes a mark with none of an office's? -/
def freeP (l : List Int) (a1 : Int) (m : Nat) : Bool := !l.any (clashB a1 (m : Int))
theorem clash_on {a0 a1 : Int} {l : List Int} (ho : officeN a0 a1 l = 0) {m : Nat} (hm : m < 1024) {i : Nat} (hi : i < l.length) : clashB a1 (m : Int) (rd l (i : Int)) = decide ((farN m (mk l i) : Int) ≤ a1) := by
  rw [clashB, mk_rd ho hi, farI_nat m _ hm (mk_lt ho hi)]; rfl
theorem freeP_iff {a0 a1 : Int} {l : List Int} (ho : officeN a0 a1 l = 0) {m : Nat} (hm : m < 1024) : freeP l a1 m = true ↔ ∀ i, i < l.length → ¬ (farN m (mk l i) : Int) ≤ a1 := by
  unfold freeP
  rw [Bool.not_eq_true', List.any_eq_false]
  constructor
  · intro h i hi hx
    have h1 := clash_on ho hm hi
    rw [decide_eq_true hx] at h1
    have e : rd l (i : Int) = l[i] := by simp [rd, hi]
    rw [e] at h1
    exact h _ (List.getElem_mem hi) h1
  · intro h x hx h1
    obtain ⟨i, hi, rfl⟩ := List.getElem_of_mem hx
    have h2 := clash_on ho hm hi
    have e : rd l (i : Int) = l[i] := by simp [rd, hi]
    rw [e, h1] at h2
    exact h i hi (of_decide_eq_true h2.symm)
theorem free_filter (a1 : Int) (l : List Int) : ∀ n, freeTo a1 l n = ((List.range n).filter fun i => freeP l a1 (i + 1)).map fun i : Nat => ((i + 1 : Nat) : Int)
  | 0 => rfl
  | n + 1 => by
    rw [freeTo, free_filter a1 l n, List.range_succ, List.filter_append, List.map_append]
    congr 1
    rw [List.filter_cons, freeP, show ((n : Int) + 1) = ((n + 1 : Nat) : Int) by omega]
    cases l.any (clashB a1 ((n + 1 : Nat) : Int)) <;> simp
theorem free_mem {a1 : Int} {l : List Int} {n : Nat} {x : Int} : x ∈ freeTo a1 l n ↔ ∃ m : Nat, 1 ≤ m ∧ m ≤ n ∧ x = (m : Int) ∧ freeP l a1 m = true := by
  rw [free_filter, List.mem_map]
  constructor
  · rintro ⟨i, hi, rfl⟩
    rw [List.mem_filter, List.mem_range] at hi
    exact ⟨i + 1, by omega, by omega, rfl, hi.2⟩
  · rintro ⟨m, h1, h2, rfl, h3⟩
    refine ⟨m - 1, List.mem_filter.2 ⟨List.mem_range.2 (by omega), ?_⟩, by omega⟩
    rw [show m - 1 + 1 = m by omega]; exact h3
theorem free_sorted (a1 : Int) (l : List Int) (n : Nat) : (freeTo a1 l n).Pairwise (· < ·) := by
  rw [free_filter]
  exact List.Pairwise.map _ (fun a b h => by omega) ((List.pairwise_lt_range).filter _)
theorem free_length (a1 : Int) (l : List Int) (n : Nat) : (freeTo a1 l n).length ≤ n := by
  rw [free_filter, List.length_map]
  exact Nat.le_trans (List.length_filter_le _ _) (by simp)

end Go.Proofs.Ytbhcchhhpmlpmaa.Hand

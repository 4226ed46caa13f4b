/- Free marks as a list, and an office with one more mark. -/
import Derived.Test.YtbhcchhhpmlpmaaHLaws
import Derived.Test.YtbhcchhhpmlpmaaMB
import Derived.Test.YtbhcchhhpmlpmaaPrE1
namespace Go.Proofs.Ytbhcchhhpmlpmaa.Hand
set_option linter.unusedVariables false
set_option linter.unusedSimpArgs false
open Go.RowKit Go.Proofs.YtbhcchhhpmlpmaaW.PrintWords Go.Proofs.YtbhcchhhpmlpmaaW.PrintLast Go.Proofs.YtbhcchhhpmlpmaaW.PrintMore Go.Proofs.Ytbhcchhhpmlpmaa.PrA Go.Proofs.Ytbhcchhhpmlpmaa.PrR Go.Proofs.Ytbhcchhhpmlpmaa.PrC Go.Proofs.Ytbhcchhhpmlpmaa.PrE

/-- clashes a mark with none of an office's? -/
def freeP (l : List Int) (a1 : Int) (m : Nat) : Bool := !l.any (clashB a1 (m : Int))
theorem clash_on {a0 a1 : Int} {l : List Int} (ho : officeN a0 a1 l = 0) {m : Nat} (hm : m < 1024) {i : Nat} (hi : i < l.length) : clashB a1 (m : Int) (rd l (i : Int)) = decide ((farN m (mk l i) : Int) ≤ a1) := by
  rw [clashB, mk_rd ho hi, farI_nat m _ hm (mk_lt ho hi)]; rfl
theorem freeP_iff {a0 a1 : Int} {l : List Int} (ho : officeN a0 a1 l = 0) {m : Nat} (hm : m < 1024) : freeP l a1 m = true ↔ ∀ i, i < l.length → ¬ (farN m (mk l i) : Int) ≤ a1 := by
  unfold freeP
  rw [Bool.not_eq_true', List.any_eq_false]
  constructor
  · intro h i hi hx
    have h1 := clash_on ho hm hi
    rw [decide_eq_true hx] at h1
    have e : rd l (i : Int) = l[i] := by simp [rd, hi]
    rw [e] at h1
    exact h _ (List.getElem_mem hi) h1
  · intro h x hx h1
    obtain ⟨i, hi, rfl⟩ := List.getElem_of_mem hx
    have h2 := clash_on ho hm hi
    have e : rd l (i : Int) = l[i] := by simp [rd, hi]
    rw [e, h1] at h2
    exact h i hi (of_decide_eq_true h2.symm)
theorem free_filter (a1 : Int) (l : List Int) : ∀ n, freeTo a1 l n = ((List.range n).filter fun i => freeP l a1 (i + 1)).map fun i : Nat => ((i + 1 : Nat) : Int)
  | 0 => rfl
  | n + 1 => by
    rw [freeTo, free_filter a1 l n, List.range_succ, List.filter_append, List.map_append]
    congr 1
    rw [List.filter_cons, freeP, show ((n : Int) + 1) = ((n + 1 : Nat) : Int) by omega]
    cases l.any (clashB a1 ((n + 1 : Nat) : Int)) <;> simp
theorem free_mem {a1 : Int} {l : List Int} {n : Nat} {x : Int} : x ∈ freeTo a1 l n ↔ ∃ m : Nat, 1 ≤ m ∧ m ≤ n ∧ x = (m : Int) ∧ freeP l a1 m = true := by
  rw [free_filter, List.mem_map]
  constructor
  · rintro ⟨i, hi, rfl⟩
    rw [List.mem_filter, List.mem_range] at hi
    exact ⟨i + 1, by omega, by omega, rfl, hi.2⟩
  · rintro ⟨m, h1, h2, rfl, h3⟩
    refine ⟨m - 1, List.mem_filter.2 ⟨List.mem_range.2 (by omega), ?_⟩, by omega⟩
    rw [show m - 1 + 1 = m by omega]; exact h3
theorem free_sorted (a1 : Int) (l : List Int) (n : Nat) : (freeTo a1 l n).Pairwise (· < ·) := by
  rw [free_filter]
  exact List.Pairwise.map _ (fun a b h => by omega) ((List.pairwise_lt_range).filter _)
theorem free_length (a1 : Int) (l : List Int) (n : Nat) : (freeTo a1 l n).length ≤ n := by
  rw [free_filter, List.length_map]
  exact Nat.le_trans (List.length_filter_le _ _) (by simp)

theorem office_snoc {a0 a1 : Int} {l : List Int} (ho : officeN a0 a1 l = 0) (hl : l.length < 12) {m : Int} (h1 : 1 ≤ m) (h2 : m ≤ allN a0) : officeN a0 a1 (l ++ [m]) = 0 := by
  have hz := office_zero ho
  unfold officeN at ho ⊢
  have e1 : outB 1 10 a0 = false := by simp [outB]; omega
  have e2 : outB 0 a0 a1 = false := by simp [outB]; omega
  rw [e1, e2, Bool.or_false, if_neg (by simp), if_neg (by simp; omega)] at ho ⊢
  rw [List.any_append, List.any_cons, List.any_nil, Bool.or_false, show outB 1 (allN a0) m = false by simp [outB]; omega, Bool.or_false]
  exact ho
theorem mk_snoc {l : List Int} {m i : Nat} (hi : i < l.length) : mk (l ++ [(m : Int)]) i = mk l i := by
  unfold mk rd
  simp [List.getElem?_append_left hi]
theorem mk_end (l : List Int) (m : Nat) : mk (l ++ [(m : Int)]) l.length = m := by
  unfold mk rd
  simp
theorem pair_snoc (a1 : Int) (l : List Int) (m : Nat) : pairN (l ++ [(m : Int)]) a1 = none ↔ pairN l a1 = none ∧ ∀ i, i < l.length → ¬ (farN m (mk l i) : Int) ≤ a1 := by
  rw [pairN_none, pairN_none]
  constructor
  · intro h
    refine ⟨fun i k hik hk => ?_, fun i hi hx => ?_⟩
    · have := h i k hik (by simp; omega)
      rw [clN, mk_snoc (by omega), mk_snoc hk] at this
      exact this
    · have := h i l.length hi (by simp)
      rw [clN, mk_snoc hi, mk_end, farN_comm, decide_eq_true hx] at this
      cases this
  · rintro ⟨h1, h2⟩ i k hik hk
    rw [List.length_append, List.length_cons, List.length_nil] at hk
    by_cases e : k = l.length
    · subst e
      rw [clN, mk_snoc hik, mk_end, farN_comm]
      exact decide_eq_false (h2 i hik)
    · rw [clN, mk_snoc (by omega), mk_snoc (by omega)]
      exact h1 i k hik (by omega)
theorem apart_zero (p : Option (Nat × Nat)) : (apartN p).2.2 = if p = none then 0 else 17 := by
  cases p with
  | none => rfl
  | some q => obtain ⟨i, k⟩ := q; rfl
theorem with_is (a0 a1 : Int) (l : List Int) (m : Int) (hl : l.length ≤ 1000) : peaveylaw01_with.f a0 a1 l m = some (a0, a1, l ++ [m]) := by
  unfold peaveylaw01_with.f
  rw [Option.bind_some, if_pos (by simp; omega), Option.bind_some, List.nil_append, if_pos (by omega)]
/-- one more mark: are all apart? -/
theorem apart_snoc {a0 a1 : Int} {l : List Int} (ho : officeN a0 a1 l = 0) (hl : l.length < 12) {m : Nat} (h1 : 1 ≤ m) (h2 : (m : Int) ≤ allN a0) :
    ∃ p q, mark_Apart.f a0 a1 (l ++ [(m : Int)]) = some (p, q, if pairN l a1 = none ∧ freeP l a1 m = true then 0 else 17) := by
  have hz := office_zero ho
  have ha := allN_lt hz.2.1
  rw [apart_val (office_snoc ho hl (by omega) h2)]
  refine ⟨_, _, congrArg some (Prod.ext rfl (Prod.ext rfl ?_))⟩
  rw [apart_zero]
  have := pair_snoc a1 l m
  rw [← freeP_iff ho (show m < 1024 by omega)] at this
  by_cases h : pairN l a1 = none ∧ freeP l a1 m = true
  · rw [if_pos h, if_pos (this.2 h)]
  · rw [if_neg h, if_neg (fun hx => h (this.1 hx))]
end Go.Proofs.Ytbhcchhhpmlpmaa.Hand

/- The reference's Most, Fewest and Shape are the tableau's lines, as the program's are. -/
import Derived.Test.YtmfonbonfhngnaaPrT1
import Derived.Test.YtmfonbonfhngnaaGF
namespace Go.Proofs.Ytmfonbonfhngnaa.Hand
set_option linter.unusedVariables false
set_option linter.unusedSimpArgs false
open Go.RowKit Go.Proofs.YtmfonbonfhngnaaW.PrintWords Go.Proofs.YtmfonbonfhngnaaW.PrintLast Go.Proofs.Ytmfonbonfhngnaa.PrA Go.Proofs.Ytmfonbonfhngnaa.PrR Go.Proofs.Ytmfonbonfhngnaa.PrT
set_option linter.unusedVariables false
set_option linter.unusedSimpArgs false

theorem shapeOf_go (T : List (List Int)) (hT : T.length ≤ 30) (d : Nat) : ∀ (i K : Nat) (o : List Int), i + d = T.length → d < K → o.length = i → peaveyref03_ShapeOf.l0 K T o i = some (o ++ ((lens T).map fun n : Nat => (n : Int)).drop i) := by
  induction d with
  | zero =>
    intro i K o hi hK ho
    obtain ⟨K, rfl⟩ : ∃ q, K = q + 1 := ⟨K - 1, by omega⟩
    rw [peaveyref03_ShapeOf.l0, if_neg (by omega), List.drop_eq_nil_of_le (by simp [lens]; omega), List.append_nil]
  | succ d ih =>
    intro i K o hi hK ho
    obtain ⟨K, rfl⟩ : ∃ q, K = q + 1 := ⟨K - 1, by omega⟩
    have hlt : i < T.length := by omega
    have hg : PrT.rd_L1 T (i : Nat) = T[i] := by simp [PrT.rd_L1, hlt]
    have hl : i < ((lens T).map fun n : Nat => (n : Int)).length := by simp [lens]; omega
    have hgi : ((lens T).map fun n : Nat => (n : Int))[i]'hl = (T[i].length : Int) := by simp [lens]
    rw [peaveyref03_ShapeOf.l0, if_pos (by omega), if_pos (by omega), if_pos (by omega), wrap_succ (by omega), ih (i + 1) K _ (by omega) (by omega) (by simp; omega), List.drop_eq_getElem_cons hl, hgi, hg]
    simp
theorem shapeOf_is {l : List Int} (hl : l.length ≤ 30) (K : Nat) (hK : 31 ≤ K) : peaveyref03_ShapeOf.f K l = some (shapeI l) := by
  unfold peaveyref03_ShapeOf.f peaveyref03_Tableau.f
  rw [if_pos hl, Option.bind_some]
  have h1 := lines_le_len l
  unfold lines at h1
  have := shapeOf_go (tabF l) (by omega) (tabF l).length 0 K [] (by omega) (by omega) rfl
  rw [List.drop_zero, List.nil_append] at this
  exact this
theorem mostOf_go {l : List Int} (hl : l.length ≤ 30) (m : Nat) (d : Nat) : ∀ (i K : Nat), i + d = lines l → d < K → i ≤ m → peaveyref03_MostOf.l0 K m (shapeI l) (best l i) i = some (best l m : Int) := by
  have h1 := lines_le_len l
  induction d with
  | zero =>
    intro i K hi hK him
    obtain ⟨K, rfl⟩ : ∃ q, K = q + 1 := ⟨K - 1, by omega⟩
    rw [peaveyref03_MostOf.l0, shapeI_len, if_neg (by omega), best_all l (by unfold lines at hi; omega), best_all l (by unfold lines at hi; omega)]
  | succ d ih =>
    intro i K hi hK him
    obtain ⟨K, rfl⟩ : ∃ q, K = q + 1 := ⟨K - 1, by omega⟩
    rw [peaveyref03_MostOf.l0, shapeI_len, if_pos (by omega)]
    by_cases e : i = m
    · subst e
      rw [if_neg (by omega)]
    · have h2 := best_succ l i
      have h3 := best_le l (i + 1)
      have hw : wrap64 ((best l i : Int) + ((lens (tabF l)).getD i 0 : Nat)) = (best l (i + 1) : Int) := by
        rw [IntWalk.wrap64_in _ ⟨by omega, by omega⟩]; omega
      rw [if_pos (by clear hw; omega), if_pos (by clear hw; omega), shapeI_get, hw, wrap_succ (by clear hw; omega)]
      clear hw
      exact ih (i + 1) K (by omega) (by omega) (by omega)
theorem mostOf_is {l : List Int} (hl : l.length ≤ 30) {m : Int} (hm : 0 ≤ m) (K : Nat) (hK : 40 ≤ K) : peaveyref03_MostOf.f K l m = some (best l m.toNat : Int) := by
  unfold peaveyref03_MostOf.f
  rw [shapeOf_is hl K (by omega), Option.bind_some]
  have h1 := lines_le_len l
  have := mostOf_go hl m.toNat (lines l) 0 K (by omega) (by omega) (Nat.zero_le _)
  rw [best_zero, show ((m.toNat : Nat) : Int) = m by omega] at this
  exact this
theorem refMost_is (l : List Int) (m : Int) (K : Nat) (hK : 40 ≤ K) : peaveyref03_Most.f K l m = some (if openE l m ≠ 0 then (0, openE l m) else ((best l m.toNat : Int), 0)) := by
  unfold peaveyref03_Most.f
  rw [asked_is l m K (by omega), Option.bind_some]
  by_cases h : openE l m = 0
  · obtain ⟨g1, g2, g3, g4, g5⟩ := open_zero h
    rw [if_pos h, if_neg (show ¬ openE l m ≠ 0 by omega), mostOf_is g2 g3 K hK, Option.bind_some]
  · rw [if_neg h, if_pos h, Option.bind_some]
theorem refFewest_is (l : List Int) (K : Nat) (hK : 40 ≤ K) : peaveyref03_Fewest.f K l = some (fewV l) := by
  unfold peaveyref03_Fewest.f
  rw [refRow_is l K (by omega), Option.bind_some]
  by_cases h : rowE l = 0
  · obtain ⟨hl, _⟩ := row_zero h
    rw [if_pos h, shapeOf_is hl K (by omega), Option.bind_some, shapeI_len, fewV_is h hl]
  · rw [if_neg h, Option.bind_some]
    unfold fewV
    rw [if_pos h]
theorem refShape_is (l : List Int) (K : Nat) (hK : 40 ≤ K) : peaveyref03_Shape.f K l = some (if rowE l ≠ 0 then ([], rowE l) else (shapeI l, 0)) := by
  unfold peaveyref03_Shape.f
  rw [refRow_is l K (by omega), Option.bind_some]
  by_cases h : rowE l = 0
  · obtain ⟨hl, _⟩ := row_zero h
    rw [if_pos h, shapeOf_is hl K (by omega), Option.bind_some, if_neg (show ¬ rowE l ≠ 0 by omega)]
  · rw [if_neg h, Option.bind_some, if_pos h]
/-- .. and the program's -/
theorem gapMost_is (l : List Int) (m : Int) (K : Nat) (hK : 70000 ≤ K) : gap_Most.f K l m = some (if openE l m ≠ 0 then (0, openE l m) else ((best l m.toNat : Int), 0)) := by
  by_cases h : openE l m = 0
  · obtain ⟨g1, g2, g3, g4, g5⟩ := open_zero h
    rw [most_is g1 g3 g4 K hK, if_neg (show ¬ openE l m ≠ 0 by omega)]
  · unfold gap_Most.f
    rw [if_pos h, if_pos h]
theorem gapShape_is (l : List Int) (K : Nat) (hK : 70000 ≤ K) : gap_Shape.f K l = some (if rowE l ≠ 0 then ([], rowE l) else (shapeI l, 0)) := by
  by_cases h : rowE l = 0
  · rw [shape_is h K hK, if_neg (show ¬ rowE l ≠ 0 by omega)]
  · unfold gap_Shape.f openE
    rw [if_pos h, if_pos h, if_pos h]
end Go.Proofs.Ytmfonbonfhngnaa.Hand

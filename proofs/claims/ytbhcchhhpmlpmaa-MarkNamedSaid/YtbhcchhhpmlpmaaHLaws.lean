/- Words that the laws over valid offices share (with what is apart). -/
import Derived.Test.YtbhcchhhpmlpmaaHPairN
import Derived.Test.YtbhcchhhpmlpmaaHLaw0
namespace Go.Proofs.Ytbhcchhhpmlpmaa.Hand
set_option linter.unusedVariables false
set_option linter.unusedSimpArgs false
open Go.RowKit Go.Proofs.YtbhcchhhpmlpmaaW.PrintWords Go.Proofs.YtbhcchhhpmlpmaaW.PrintLast Go.Proofs.YtbhcchhhpmlpmaaW.PrintMore Go.Proofs.Ytbhcchhhpmlpmaa.PrA Go.Proofs.Ytbhcchhhpmlpmaa.PrR Go.Proofs.Ytbhcchhhpmlpmaa.PrC

def apartN (p : Option (Nat × Nat)) : Int × Int × Int := match p with | some (i, k) => ((i : Int), (k : Int), 17) | none => (0, 0, 0)
theorem apart_val {a0 b : Int} {l : List Int} (ho : officeN a0 b l = 0) : mark_Apart.f a0 b l = some (apartN (pairN l b)) := by
  unfold mark_Apart.f
  rw [if_neg (fun h => h ho), apartV, apartF_is ho]; rfl
theorem margin_val {a0 b : Int} {l : List Int} (ho : officeN a0 b l = 0) : mark_Margin.f a0 b l = some (marOut a0 l l.length, 0) := by
  unfold mark_Margin.f
  rw [if_neg (fun h => h ho)]
theorem clash_val {a0 b : Int} {l : List Int} (ho : officeN a0 b l = 0) {i j : Nat} (hi : i < l.length) (hj : j < l.length) :
    mark_Clash.f a0 b l (i : Int) (j : Int) = some (if i = j then (0, 16) else if clN l b i j then (((mk l i &&& mk l j : Nat) : Int), 0) else (0, 5)) := by
  have hm := marks_of ho
  unfold mark_Clash.f
  have h1 : outB 0 ((l.length : Int) - 1) (i : Int) = false := by simp [outB]; omega
  have h2 : outB 0 ((l.length : Int) - 1) (j : Int) = false := by simp [outB]; omega
  rw [if_neg (fun h => h ho), h1, h2, Bool.or_false, if_neg (by simp), clashV]
  by_cases e : i = j
  · rw [if_pos (by rw [e]), if_pos e]
  · rw [if_neg (by omega), if_neg e, farI_mk hm hi hj, (hm i hi).1, (hm j hj).1, i64_and_nat _ _ (hm i hi).2 (hm j hj).2]
    by_cases h : (farN (mk l i) (mk l j) : Int) ≤ b
    · rw [if_pos h, clN, decide_eq_true h]; rfl
    · rw [if_neg h, clN, decide_eq_false h]; rfl

end Go.Proofs.Ytbhcchhhpmlpmaa.Hand

/- The reference's Free, in plain numbers. -/
import Derived.Test.YtbhcchhhpmlpmaaHRefC
import Derived.Test.YtbhcchhhpmlpmaaPrV1
import Derived.Test.YtbhcchhhpmlpmaaMB
namespace Go.Proofs.Ytbhcchhhpmlpmaa.Hand
set_option linter.unusedVariables false
set_option linter.unusedSimpArgs false
open Go.RowKit Go.Proofs.YtbhcchhhpmlpmaaW.PrintWords Go.Proofs.YtbhcchhhpmlpmaaW.PrintLast Go.Proofs.YtbhcchhhpmlpmaaW.PrintMore Go.Proofs.Ytbhcchhhpmlpmaa.PrA Go.Proofs.Ytbhcchhhpmlpmaa.PrR Go.Proofs.Ytbhcchhhpmlpmaa.PrT Go.Proofs.Ytbhcchhhpmlpmaa.PrV

/-- clashes a mark with none of an office's? -/
def freeN (l : List Int) (a1 : Int) (m : Nat) : Bool := !l.any (clashB a1 (m : Int))
theorem clash_at {a0 a1 : Int} {l : List Int} (ho : officeN a0 a1 l = 0) {m : Nat} (hm : m < 1024) {i : Nat} (hi : i < l.length) : clashB a1 (m : Int) (rd l (i : Int)) = decide ((farN m (mk l i) : Int) ≤ a1) := by
  rw [clashB, mk_rd ho hi, farI_nat m _ hm (mk_lt ho hi)]; rfl
theorem freeN_iff {a0 a1 : Int} {l : List Int} (ho : officeN a0 a1 l = 0) {m : Nat} (hm : m < 1024) : freeN l a1 m = true ↔ ∀ i, i < l.length → ¬ (farN m (mk l i) : Int) ≤ a1 := by
  unfold freeN
  rw [Bool.not_eq_true', List.any_eq_false]
  constructor
  · intro h i hi hx
    have h1 := clash_at ho hm hi
    rw [decide_eq_true hx] at h1
    have e : rd l (i : Int) = l[i] := by simp [rd, hi]
    rw [e] at h1
    exact h _ (List.getElem_mem hi) h1
  · intro h x hx h1
    obtain ⟨i, hi, rfl⟩ := List.getElem_of_mem hx
    have h2 := clash_at ho hm hi
    have e : rd l (i : Int) = l[i] := by simp [rd, hi]
    rw [e, h1] at h2
    exact h i hi (of_decide_eq_true h2.symm)
theorem isFree_loop {a0 a1 : Int} {l : List Int} (ho : officeN a0 a1 l = 0) {m : Nat} (hm : m < 1024) : ∀ (d i : Nat), i + d = l.length → (∀ j, j < i → ¬ (farN m (mk l j) : Int) ≤ a1) → ∀ k, d + 1110 ≤ k →
    peaveyref01_IsFree.l0 k (m : Int) (i : Int) a0 a1 l = some (freeN l a1 m) := by
  have h12 := (office_zero ho).2.2.2.2.1
  intro d
  induction d with
  | zero =>
    intro i hi hb k hk
    obtain ⟨k, rfl⟩ : ∃ j, k = j + 1 := ⟨k - 1, by omega⟩
    rw [peaveyref01_IsFree.l0, if_neg (by omega), (freeN_iff ho hm).2 fun j hj => hb j (by omega)]
  | succ d ih =>
    intro i hi hb k hk
    obtain ⟨k, rfl⟩ : ∃ j, k = j + 1 := ⟨k - 1, by omega⟩
    have hil : i < l.length := by omega
    rw [peaveyref01_IsFree.l0, if_pos (by omega), if_pos (by omega), mk_rd ho hil, refBoth_is m _ a1 hm (mk_lt ho hil) (by omega), Option.bind_some]
    by_cases hf : (farN m (mk l i) : Int) ≤ a1
    · have : ¬ bothV m (mk l i) a1 < 0 := fun h => (bothV_neg _ _ _).1 h hf
      rw [if_pos (by omega)]
      cases hx : freeN l a1 m
      · rfl
      · exact absurd hf ((freeN_iff ho hm).1 hx i hil)
    · have := (bothV_neg m (mk l i) a1).2 hf
      rw [if_neg (by omega), wsucc i (by omega)]
      refine ih (i + 1) (by omega) (fun j hj => ?_) k (by omega)
      by_cases e : j = i
      · rw [e]; exact hf
      · exact hb j (by omega)
theorem refIsFree_is {a0 a1 : Int} {l : List Int} (ho : officeN a0 a1 l = 0) {m : Nat} (h1 : 1 ≤ m) (h2 : (m : Int) ≤ allN a0) {k : Nat} (hk : 1200 ≤ k) : peaveyref01_IsFree.f k a0 a1 l (m : Int) = some (freeN l a1 m) := by
  have hz := office_zero ho
  have ha := allN_lt hz.2.1
  obtain ⟨k, rfl⟩ : ∃ j, k = j + 1 := ⟨k - 1, by omega⟩
  unfold peaveyref01_IsFree.f
  rw [if_neg (by omega), refAll_is a1 l hz.1 hz.2.1, Option.bind_some, decide_eq_false (by omega), peaveyref01_IsFree.j0, if_neg (by simp)]
  exact isFree_loop ho (by omega) l.length 0 (by omega) (fun j hj => by omega) k (by have := hz.2.2.2.2.1; omega)
theorem freeTo_succ (a1 : Int) (l : List Int) (n : Nat) : freeTo a1 l (n + 1) = freeTo a1 l n ++ (if freeN l a1 (n + 1) = true then [((n + 1 : Nat) : Int)] else []) := by
  rw [freeTo, freeN, show ((n : Int) + 1) = ((n + 1 : Nat) : Int) by omega]
  cases l.any (clashB a1 ((n + 1 : Nat) : Int)) <;> simp
theorem freeTo_len (a1 : Int) (l : List Int) : ∀ n, (freeTo a1 l n).length ≤ n
  | 0 => Nat.le_refl _
  | n + 1 => by
    have := freeTo_len a1 l n
    rw [freeTo_succ, List.length_append]
    split <;> simp <;> omega
theorem refFree_loop {a0 a1 : Int} {l : List Int} (ho : officeN a0 a1 l = 0) : ∀ (d m : Nat), (m : Int) + d = allN a0 → ∀ k, d + 1300 ≤ k →
    peaveyref01_Free.l0 k (freeTo a1 l m) ((m + 1 : Nat) : Int) a0 a1 l = some (freeTo a1 l (allN a0).toNat, 0) := by
  have hz := office_zero ho
  have ha := allN_lt hz.2.1
  intro d
  induction d with
  | zero =>
    intro m hm k hk
    obtain ⟨k, rfl⟩ : ∃ j, k = j + 1 := ⟨k - 1, by omega⟩
    rw [peaveyref01_Free.l0, refAll_is a1 l hz.1 hz.2.1, Option.bind_some, if_neg (by omega), show (allN a0).toNat = m by omega]
  | succ d ih =>
    intro m hm k hk
    obtain ⟨k, rfl⟩ : ∃ j, k = j + 1 := ⟨k - 1, by omega⟩
    have hn := ih (m + 1) (by omega) k (by omega)
    have hlen := freeTo_len a1 l m
    rw [peaveyref01_Free.l0, refAll_is a1 l hz.1 hz.2.1, Option.bind_some, if_pos (by omega), refIsFree_is ho (by omega) (by omega) (by omega), Option.bind_some, wsucc (m + 1) (by omega)]
    rw [freeTo_succ] at hn
    cases hf : freeN l a1 (m + 1)
    · rw [hf, if_neg (by simp), List.append_nil] at hn
      rw [if_neg (by simp)]; exact hn
    · rw [hf, if_pos rfl] at hn
      rw [if_pos rfl, if_pos (by omega)]; exact hn
/-- the reference's Free is the program's -/
theorem refFree_is (a0 a1 : Int) (l : List Int) {k : Nat} (hk : 2400 ≤ k) : peaveyref01_Free.f k a0 a1 l = mark_Free.f a0 a1 l := by
  unfold peaveyref01_Free.f mark_Free.f
  rw [refOffice_is a0 a1 l (by omega), Option.bind_some]
  by_cases ho : officeN a0 a1 l = 0
  · have hz := office_zero ho
    have ha := allN_lt hz.2.1
    have hp := allN_pos hz.1
    rw [if_pos ho, if_neg (fun h => h ho)]
    exact refFree_loop ho (allN a0).toNat 0 (by omega) k (by omega)
  · rw [if_neg ho, if_pos ho]; rfl
end Go.Proofs.Ytbhcchhhpmlpmaa.Hand

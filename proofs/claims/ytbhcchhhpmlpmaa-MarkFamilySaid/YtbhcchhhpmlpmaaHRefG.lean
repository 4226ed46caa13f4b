/- Families in plain numbers: what is asked for, which indexes are in order, which marks are apart. -/
import Derived.Test.YtbhcchhhpmlpmaaHRefF
import Derived.Test.YtbhcchhhpmlpmaaPrW1
import Derived.Test.YtbhcchhhpmlpmaaMC
namespace Go.Proofs.Ytbhcchhhpmlpmaa.Hand
set_option linter.unusedVariables false
set_option linter.unusedSimpArgs false
open Go.RowKit Go.Proofs.YtbhcchhhpmlpmaaW.PrintWords Go.Proofs.YtbhcchhhpmlpmaaW.PrintLast Go.Proofs.YtbhcchhhpmlpmaaW.PrintMore Go.Proofs.Ytbhcchhhpmlpmaa.PrA Go.Proofs.Ytbhcchhhpmlpmaa.PrR Go.Proofs.Ytbhcchhhpmlpmaa.PrT Go.Proofs.Ytbhcchhhpmlpmaa.PrV Go.Proofs.Ytbhcchhhpmlpmaa.PrW

theorem rd_nth {l : List Int} {i : Nat} (h : i < l.length) : rd l (i : Int) = l[i] := by simp [rd, h]
theorem asked_loop (a0 a1 : Int) (l marks : List Int) (h1 : 1 ≤ a0) (h2 : a0 ≤ 10) (h12 : marks.length ≤ 12) : ∀ (d i : Nat), i + d = marks.length → ∀ k, d < k → peaveyref01_Asked.l0 k marks (i : Int) a0 a1 l = some (if (marks.drop i).any (outB 1 (allN a0)) then 3 else 0) := by
  intro d
  induction d with
  | zero =>
    intro i hi k hk
    obtain ⟨k, rfl⟩ : ∃ j, k = j + 1 := ⟨k - 1, by omega⟩
    rw [peaveyref01_Asked.l0, if_neg (by omega), List.drop_eq_nil_of_le (by omega)]; rfl
  | succ d ih =>
    intro i hi k hk
    obtain ⟨k, rfl⟩ : ∃ j, k = j + 1 := ⟨k - 1, by omega⟩
    have hil : i < marks.length := by omega
    have hn := ih (i + 1) (by omega) k (by omega)
    rw [peaveyref01_Asked.l0, if_pos (by omega), if_pos (by omega), rd_nth hil, refAll_is a1 l h1 h2, Option.bind_some, wsucc i (by omega), List.drop_eq_getElem_cons hil, List.any_cons]
    by_cases g1 : marks[i] < 1
    · rw [if_pos g1, show outB 1 (allN a0) marks[i] = true by simp [outB]; omega]; rfl
    · rw [if_neg g1]
      by_cases g2 : marks[i] > allN a0
      · rw [if_pos g2, show outB 1 (allN a0) marks[i] = true by simp [outB]; omega]; rfl
      · rw [if_neg g2, hn, show outB 1 (allN a0) marks[i] = false by simp [outB]; omega, Bool.false_or]
theorem refAsked_is (a0 a1 : Int) (l marks : List Int) {k : Nat} (hk : 20 ≤ k) : peaveyref01_Asked.f k a0 a1 l marks = some (askedN a0 a1 l marks) := by
  unfold peaveyref01_Asked.f askedN
  rw [refOffice_is a0 a1 l hk, Option.bind_some, Option.bind_some]
  by_cases ho : officeN a0 a1 l = 0
  · have hz := office_zero ho
    rw [if_pos ho, if_neg (show ¬ (officeN a0 a1 l ≠ 0) from fun h => h ho)]
    by_cases h12 : 12 < marks.length
    · rw [if_pos (by omega), if_pos h12]
    · rw [if_neg (by omega), if_neg h12]
      exact asked_loop a0 a1 l marks hz.1 hz.2.1 (by omega) marks.length 0 (by omega) k (by omega)
  · rw [if_neg ho, if_pos ho]
theorem picked_loop (marks fam : List Int) (hf : ∀ x ∈ fam, 0 ≤ x ∧ x < (marks.length : Int)) (hl : fam.length ≤ 10000) : ∀ (d i : Nat), i + d = fam.length → ∀ k, d < k → peaveyref01_Picked.l0 k marks fam ((fam.take i).map (rd marks)) (i : Int) = some (fam.map (rd marks)) := by
  intro d
  induction d with
  | zero =>
    intro i hi k hk
    obtain ⟨k, rfl⟩ : ∃ j, k = j + 1 := ⟨k - 1, by omega⟩
    rw [peaveyref01_Picked.l0, if_neg (by omega), List.take_of_length_le (by omega)]
  | succ d ih =>
    intro i hi k hk
    obtain ⟨k, rfl⟩ : ∃ j, k = j + 1 := ⟨k - 1, by omega⟩
    have hil : i < fam.length := by omega
    have hx := hf fam[i] (List.getElem_mem hil)
    have hn := ih (i + 1) (by omega) k (by omega)
    rw [← List.take_append_getElem hil, List.map_append, List.map_cons, List.map_nil] at hn
    rw [peaveyref01_Picked.l0, if_pos (by omega), if_pos (by omega), rd_nth hil, if_pos hx.1, if_pos hx.2, if_pos (by rw [List.length_map, List.length_take]; omega), wsucc i (by omega)]
    exact hn
theorem refPicked_is (marks fam : List Int) (hf : ∀ x ∈ fam, 0 ≤ x ∧ x < (marks.length : Int)) (hl : fam.length ≤ 10000) {k : Nat} (hk : fam.length < k) : peaveyref01_Picked.f k marks fam = some (fam.map (rd marks)) :=
  picked_loop marks fam hf hl fam.length 0 (by omega) k hk

/-- is an index within, and greater than the one before? -/
def stepOk (n : Int) (fam : List Int) (k : Nat) : Bool := !outB 0 (n - 1) (rd fam (k : Int)) && (decide (k = 0) || decide (rd fam ((k : Int) - 1) < rd fam (k : Int)))
theorem okFrom_iff' (n : Int) : ∀ (l : List Int) (nx : Int), okFrom n nx l = true ↔ ∀ k, k < l.length → rd l (k : Int) ≤ n - 1 ∧ (if k = 0 then nx else rd l ((k : Int) - 1) + 1) ≤ rd l (k : Int)
  | [], nx => by simp [okFrom]
  | x :: l, nx => by
    have sh : ∀ k : Nat, rd (x :: l) ((k : Int) + 1) = rd l (k : Int) := fun k => by unfold rd; rw [show ((k : Int) + 1).toNat = k + 1 by omega]; simp
    have s0 : rd (x :: l) ((0 : Nat) : Int) = x := by simp [rd]
    rw [okFrom, Bool.and_eq_true, okFrom_iff' n l]
    constructor
    · rintro ⟨h1, h2⟩ k hk
      match k with
      | 0 =>
        rw [s0, if_pos rfl]
        simp [outB] at h1
        omega
      | 1 =>
        have := h2 0 (by simpa using hk)
        have e1 := sh 0
        rw [if_pos rfl] at this
        rw [if_neg (by omega), show (((1 : Nat) : Int) - 1) = ((0 : Nat) : Int) by omega, s0, show ((1 : Nat) : Int) = ((0 : Nat) : Int) + 1 by omega, e1]
        exact this
      | k + 2 =>
        have := h2 (k + 1) (by simp at hk; omega)
        rw [if_neg (by omega)] at this
        have e1 := sh (k + 1)
        have e2 := sh k
        rw [if_neg (by omega), show (((k + 2 : Nat) : Int) - 1) = (k : Int) + 1 by omega, e2, show ((k + 2 : Nat) : Int) = ((k + 1 : Nat) : Int) + 1 by omega, e1]
        rw [show (((k + 1 : Nat) : Int) - 1) = (k : Int) by omega] at this
        exact this
    · intro h
      have h0 := h 0 (by simp)
      rw [s0, if_pos rfl] at h0
      refine ⟨by simp [outB]; omega, fun k hk => ?_⟩
      have := h (k + 1) (by simp; omega)
      rw [if_neg (by omega), show ((k + 1 : Nat) : Int) = (k : Int) + 1 by omega, sh k, show ((k : Int) + 1 - 1) = (k : Int) by omega] at this
      match k with
      | 0 => rw [if_pos rfl]; rw [s0] at this; exact this
      | k + 1 =>
        rw [if_neg (by omega), show (((k + 1 : Nat) : Int) - 1) = (k : Int) by omega]
        rw [show ((k + 1 : Nat) : Int) = (k : Int) + 1 by omega, sh k] at this
        exact this
theorem okFrom_steps (n : Int) (l : List Int) : okFrom n 0 l = true ↔ ∀ k, k < l.length → stepOk n l k = true := by
  rw [okFrom_iff']
  have low : (∀ k, k < l.length → rd l (k : Int) ≤ n - 1 ∧ (if k = 0 then 0 else rd l ((k : Int) - 1) + 1) ≤ rd l (k : Int)) → ∀ k, k < l.length → 0 ≤ rd l (k : Int) := by
    intro h k
    induction k with
    | zero => intro hk; have := (h 0 hk).2; rw [if_pos rfl] at this; exact this
    | succ k ih =>
      intro hk
      have h1 := ih (by omega)
      have h2 := (h (k + 1) hk).2
      rw [if_neg (by omega), show (((k + 1 : Nat) : Int) - 1) = (k : Int) by omega] at h2
      omega
  constructor
  · intro h k hk
    have h0 := low h k hk
    have h1 := h k hk
    unfold stepOk
    rw [Bool.and_eq_true, Bool.or_eq_true, decide_eq_true_eq, decide_eq_true_eq]
    refine ⟨by simp [outB]; omega, ?_⟩
    by_cases e : k = 0
    · exact .inl e
    · rw [if_neg e] at h1; exact .inr (by omega)
  · intro h k hk
    have h1 := h k hk
    unfold stepOk at h1
    rw [Bool.and_eq_true, Bool.or_eq_true, decide_eq_true_eq, decide_eq_true_eq] at h1
    obtain ⟨g1, g2⟩ := h1
    simp [outB] at g1
    refine ⟨by omega, ?_⟩
    rcases g2 with e | e
    · rw [if_pos e]; omega
    · by_cases e0 : k = 0
      · rw [if_pos e0]; omega
      · rw [if_neg e0]; omega
/-- marks that are asked for, as they may be -/
theorem asked_marks {a0 a1 : Int} {l marks : List Int} (h : askedN a0 a1 l marks = 0) : officeN a0 a1 l = 0 ∧ marks.length ≤ 12 ∧ Marks marks ∧ ∀ i, i < marks.length → 1 ≤ mk marks i ∧ (mk marks i : Int) ≤ allN a0 := by
  obtain ⟨ho, h12, hany⟩ := asked_zero h
  have hz := office_zero ho
  have ha := allN_lt hz.2.1
  have key : ∀ i, i < marks.length → 1 ≤ rd marks (i : Int) ∧ rd marks (i : Int) ≤ allN a0 := by
    intro i hi
    have := List.any_eq_false.1 hany marks[i] (List.getElem_mem hi)
    rw [rd_nth hi]
    simp [outB] at this
    omega
  refine ⟨ho, h12, fun i hi => ?_, fun i hi => ?_⟩
  · have := key i hi
    unfold mk
    omega
  · have := key i hi
    unfold mk
    omega
/-- do the marks of a family join, one after the other? -/
theorem famJoin_iff {a0 a1 : Int} {l marks fam : List Int} (h : askedN a0 a1 l marks = 0) (hf : ∀ x ∈ fam, 0 ≤ x ∧ x < (marks.length : Int)) :
    famJoin a1 l marks fam fam.length = true ↔ (∀ k, k < fam.length → freeN l a1 (mk marks (rd fam (k : Int)).toNat) = true) ∧ pairN (fam.map (rd marks)) a1 = none := by
  obtain ⟨ho, h12, hm, hr⟩ := asked_marks h
  have hin : ∀ k, k < fam.length → (rd fam (k : Int)).toNat < marks.length ∧ rd fam (k : Int) = ((rd fam (k : Int)).toNat : Int) := by
    intro k hk
    have := hf fam[k] (List.getElem_mem hk)
    rw [rd_nth hk]; omega
  have hall : ∀ m, famJoin a1 l marks fam m = true ↔ ∀ k, k < m → joinsB a1 l marks (fam.take k) (rd fam (k : Int)).toNat = true := by
    intro m
    induction m with
    | zero => simp [famJoin]
    | succ m ih =>
      rw [famJoin, Bool.and_eq_true, ih]
      constructor
      · intro ⟨h1, h2⟩ k hk
        by_cases e : k = m
        · rw [e]; exact h2
        · exact h1 k (by omega)
      · intro h1
        exact ⟨fun k hk => h1 k (by omega), h1 m (by omega)⟩
  have hmk : ∀ k, k < fam.length → mk (fam.map (rd marks)) k = mk marks (rd fam (k : Int)).toNat := by
    intro k hk
    unfold mk
    rw [rd_nth (l := fam.map (rd marks)) (by rw [List.length_map]; exact hk), List.getElem_map, ← rd_nth hk, (hin k hk).2]; simp
  have hcl : ∀ i k, i < k → k < fam.length → famClash a1 marks (rd fam (k : Int)).toNat (rd fam (i : Int)) = clN (fam.map (rd marks)) a1 i k := by
    intro i k hik hk
    have h1 := hin k hk
    have h2 := hin i (by omega)
    unfold famClash clashB clN
    rw [h2.2, farI_mk hm h1.1 h2.1, hmk i (by omega), hmk k hk, farN_comm]
  have hany : ∀ k, k < fam.length → ((fam.take k).any (famClash a1 marks (rd fam (k : Int)).toNat) = false ↔ ∀ i, i < k → clN (fam.map (rd marks)) a1 i k = false) := by
    intro k hk
    rw [List.any_eq_false]
    constructor
    · intro g i hi
      have hit : i < (fam.take k).length := by rw [List.length_take]; omega
      have := g (fam.take k)[i] (List.getElem_mem hit)
      rw [List.getElem_take, ← rd_nth (by omega), hcl i k hi hk] at this
      simpa using this
    · intro g x hx
      obtain ⟨i, hi, rfl⟩ := List.getElem_of_mem hx
      rw [List.length_take] at hi
      rw [List.getElem_take, ← rd_nth (by omega), hcl i k (by omega) hk, g i (by omega)]; simp
  have hfr : ∀ k, k < fam.length → (!l.any (clashB a1 (rd marks ((rd fam (k : Int)).toNat : Int)))) = freeN l a1 (mk marks (rd fam (k : Int)).toNat) := by
    intro k hk
    rw [freeN, (hm _ (hin k hk).1).1]
  rw [hall, pairN_none, List.length_map]
  constructor
  · intro g
    refine ⟨fun k hk => ?_, fun i k hik hk => ?_⟩
    · have := g k hk
      rw [joinsB, Bool.and_eq_true, hfr k hk] at this
      exact this.1
    · have := g k hk
      rw [joinsB, Bool.and_eq_true] at this
      exact (hany k hk).1 (by simpa using this.2) i hik
  · rintro ⟨g1, g2⟩ k hk
    rw [joinsB, Bool.and_eq_true, hfr k hk, Bool.not_eq_true']
    exact ⟨g1 k hk, (hany k hk).2 fun i hi => g2 i k hi hk⟩
end Go.Proofs.Ytbhcchhhpmlpmaa.Hand

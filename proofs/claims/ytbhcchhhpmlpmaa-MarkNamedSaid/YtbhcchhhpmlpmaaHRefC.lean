/- The reference's clashes and margins, in plain numbers. -/
import Derived.Test.YtbhcchhhpmlpmaaMD
import Derived.Test.YtbhcchhhpmlpmaaPrT1
import Derived.Test.YtbhcchhhpmlpmaaHPairN
import Derived.Test.YtbhcchhhpmlpmaaMB
namespace Go.Proofs.Ytbhcchhhpmlpmaa.Hand
set_option linter.unusedVariables false
set_option linter.unusedSimpArgs false
open Go.RowKit Go.Proofs.YtbhcchhhpmlpmaaW.PrintWords Go.Proofs.YtbhcchhhpmlpmaaW.PrintLast Go.Proofs.YtbhcchhhpmlpmaaW.PrintMore Go.Proofs.Ytbhcchhhpmlpmaa.PrA Go.Proofs.Ytbhcchhhpmlpmaa.PrR Go.Proofs.Ytbhcchhhpmlpmaa.PrT

theorem both_step (a b : Nat) (loss best : Int) (w k : Nat) (ha : a < 1024) (hb : b < 1024) (hw : w ≤ a) (hk : 12 ≤ k) :
    peaveyref01_Both.l0 (k + 1) a b loss best w = if canBe w a loss && canBe w b loss then (if best < 0 then peaveyref01_Both.l0 k a b loss w ((w + 1 : Nat) : Int) else
      ((peaveyref01_Size.f k best).bind fun t104 => (if (pc w : Int) > t104 then peaveyref01_Both.l0 k a b loss w ((w + 1 : Nat) : Int) else peaveyref01_Both.l0 k a b loss best ((w + 1 : Nat) : Int)))) else peaveyref01_Both.l0 k a b loss best ((w + 1 : Nat) : Int) := by
  rw [peaveyref01_Both.l0, if_pos (by omega), refCanBe_is w a loss (by omega) ha hk, refCanBe_is w b loss (by omega) hb hk, refSize_is w (by omega) hk, wsucc w (by omega)]
  simp only [Option.bind_some]
  cases canBe w a loss <;> cases canBe w b loss <;> simp
theorem both_last (a b : Nat) (loss best : Int) (w k : Nat) (hw : a < w) : peaveyref01_Both.l0 (k + 1) a b loss best w = some best := by
  rw [peaveyref01_Both.l0, if_neg (by omega)]
theorem both_none (a b : Nat) (loss : Int) (ha : a < 1024) (hb : b < 1024) (hn : ¬ (farN a b : Int) ≤ loss) : ∀ (m w : Nat), w + m = a + 1 → ∀ k, m + 12 < k → peaveyref01_Both.l0 k a b loss (-1) w = some (-1)
  | 0, w, hw, k + 1, _ => both_last a b loss (-1) w k (by omega)
  | m + 1, w, hw, k + 1, hk => by
    have hc : (canBe w a loss && canBe w b loss) = false := by
      cases h1 : canBe w a loss
      · rfl
      · cases h2 : canBe w b loss
        · rfl
        · exact absurd (both_far ha hb h1 h2) hn
    rw [both_step a b loss (-1) w k ha hb (by omega) (by omega), hc, if_neg (by simp)]
    exact both_none a b loss ha hb hn m (w + 1) (by omega) k (by omega)
theorem both_past (a b : Nat) (loss : Int) (ha : a < 1024) (hb : b < 1024) : ∀ (m w : Nat), w + m = a + 1 → ∀ k, m + 12 < k → peaveyref01_Both.l0 k a b loss ((a &&& b : Nat) : Int) w = some ((a &&& b : Nat) : Int)
  | 0, w, hw, k + 1, _ => both_last a b loss _ w k (by omega)
  | m + 1, w, hw, k + 1, hk => by
    have ih := both_past a b loss ha hb m (w + 1) (by omega) k (by omega)
    rw [both_step a b loss _ w k ha hb (by omega) (by omega)]
    cases h1 : canBe w a loss
    · simpa using ih
    · cases h2 : canBe w b loss
      · simpa using ih
      · have hs := (canBe_both ha hb h1 h2).1
        have hp : pc w ≤ pc (a &&& b) := pc_mono fun i _ hi => sub_bit hs hi
        rw [if_pos (by rfl), if_neg (by omega), refSize_is _ (and_lt ha) (by omega), Option.bind_some, if_neg (by omega)]
        exact ih
theorem both_find (a b : Nat) (loss : Int) (ha : a < 1024) (hb : b < 1024) (hf : (farN a b : Int) ≤ loss) : ∀ (m w : Nat) (best : Int), w + m = a + 1 → w ≤ a &&& b → (best = -1 ∨ ∃ n : Nat, best = (n : Int) ∧ n < 1024 ∧ pc n < pc (a &&& b)) →
    ∀ k, m + 12 < k → peaveyref01_Both.l0 k a b loss best w = some ((a &&& b : Nat) : Int)
  | 0, w, _, hw, hle, _, _, _ => by have := @Nat.and_le_left a b; omega
  | m + 1, w, best, hw, hle, hbest, k + 1, hk => by
    have hca := @Nat.and_le_left a b
    rw [both_step a b loss _ w k ha hb (by omega) (by omega)]
    by_cases e : w = a &&& b
    · subst e
      obtain ⟨h1, h2⟩ := far_both ha hb hf
      rw [h1, h2, if_pos (by rfl)]
      have ih := both_past a b loss ha hb m ((a &&& b) + 1) (by omega) k (by omega)
      rcases hbest with rfl | ⟨n, rfl, hn, hp⟩
      · rw [if_pos (by omega)]; exact ih
      · rw [if_neg (by omega), refSize_is n hn (by omega), Option.bind_some, if_pos (by omega)]; exact ih
    · have ih := fun best' hb' => both_find a b loss ha hb hf m (w + 1) best' (by omega) (by omega) hb' k (by omega)
      cases h1 : canBe w a loss
      · simpa using ih best hbest
      · cases h2 : canBe w b loss
        · simpa using ih best hbest
        · have hs := (canBe_both ha hb h1 h2).1
          have hp : pc w < pc (a &&& b) := by
            have h3 : pc w ≤ pc (a &&& b) := pc_mono fun i _ hi => sub_bit hs hi
            rcases Nat.lt_or_ge (pc w) (pc (a &&& b)) with g | g
            · exact g
            · exact absurd (sub_eq (by omega) (and_lt ha) hs g) e
          have hw' := ih (w : Int) (.inr ⟨w, rfl, by omega, hp⟩)
          rw [if_pos (by rfl)]
          rcases hbest with rfl | ⟨n, rfl, hn, hpn⟩
          · rw [if_pos (by omega)]; exact hw'
          · rw [if_neg (by omega), refSize_is n hn (by omega), Option.bind_some]
            split
            · exact hw'
            · exact ih _ (.inr ⟨n, rfl, hn, hpn⟩)
theorem refBoth_is (a b : Nat) (loss : Int) (ha : a < 1024) (hb : b < 1024) {k : Nat} (hk : 1100 ≤ k) : peaveyref01_Both.f k a b loss = some (bothV a b loss) := by
  unfold peaveyref01_Both.f bothV
  by_cases h : (farN a b : Int) ≤ loss
  · rw [if_pos h]
    exact both_find a b loss ha hb h (a + 1) 0 (-1) (by omega) (by omega) (.inl rfl) k (by omega)
  · rw [if_neg h]
    exact both_none a b loss ha hb h (a + 1) 0 (by omega) k (by omega)
theorem apart_row (l : List Int) (loss : Int) (hl : Marks l) (h24 : l.length ≤ 40) (i : Nat) (hi : i < l.length) (K : Nat) (next : ∀ k, K ≤ k → peaveyref01_AreApart.l0 k l loss ((i + 1 : Nat) : Int) = some (pairI (firstRow (rowN l loss) (l.length - (i + 1)) (i + 1)))) (hK : 1100 ≤ K) :
    ∀ (m j : Nat), j + m = l.length → ∀ k, m + K < k → peaveyref01_AreApart.l1 k l loss (i : Int) (j : Int) = some (match inRow (clN l loss i) m j with | some k' => ((i : Int), (k' : Int)) | none => pairI (firstRow (rowN l loss) (l.length - (i + 1)) (i + 1)))
  | 0, j, hj, k + 1, hk => by
    rw [peaveyref01_AreApart.l1, if_neg (by omega), wsucc i (by omega), next k (by omega)]; rfl
  | m + 1, j, hj, k + 1, hk => by
    have hjl : j < l.length := by omega
    rw [peaveyref01_AreApart.l1, if_pos (by omega), if_pos (by omega), if_pos (by omega), if_pos (by omega), (hl i hi).1, (hl j hjl).1, refBoth_is _ _ loss (hl i hi).2 (hl j hjl).2 (by omega), Option.bind_some, wsucc j (by omega), inRow]
    by_cases h : (farN (mk l i) (mk l j) : Int) ≤ loss
    · have h1 : clN l loss i j = true := decide_eq_true h
      have h2 : ¬ bothV (mk l i) (mk l j) loss < 0 := fun h' => (bothV_neg _ _ _).1 h' h
      rw [if_pos (by omega), h1, if_pos rfl]
    · have h1 : clN l loss i j = false := decide_eq_false h
      have h2 := (bothV_neg (mk l i) (mk l j) loss).2 h
      rw [if_neg (by omega), h1, if_neg (by simp)]
      exact apart_row l loss hl h24 i hi K next hK m (j + 1) (by omega) k (by omega)
theorem apart_loop (l : List Int) (loss : Int) (hl : Marks l) (h24 : l.length ≤ 40) : ∀ (m i : Nat), i + m = l.length → ∀ k, 1200 + 50 * m ≤ k → peaveyref01_AreApart.l0 k l loss (i : Int) = some (pairI (firstRow (rowN l loss) m i))
  | 0, i, hi, k + 1, _ => by rw [peaveyref01_AreApart.l0, if_neg (by omega)]; rfl
  | m + 1, i, hi, k + 1, hk => by
    have hil : i < l.length := by omega
    have hm : l.length - (i + 1) = m := by omega
    rw [peaveyref01_AreApart.l0, if_pos (by omega), wsucc i (by omega)]
    have := apart_row l loss hl h24 i hil (1200 + 50 * m) (fun k' hk' => by rw [hm]; exact apart_loop l loss hl h24 m (i + 1) (by omega) k' hk') (by omega) m (i + 1) (by omega) k (by omega)
    rw [this, hm, firstRow]
    have e : rowN l loss i = inRow (clN l loss i) m (i + 1) := by rw [rowN, hm]
    rw [e]
    cases inRow (clN l loss i) m (i + 1) <;> rfl
theorem refApart_is (l : List Int) (loss : Int) (hl : Marks l) (h24 : l.length ≤ 40) {k : Nat} (hk : 3200 ≤ k) : peaveyref01_AreApart.f k l loss = some (pairI (pairN l loss)) :=
  apart_loop l loss hl h24 l.length 0 (by omega) k (by omega)

theorem refApartF_is (a0 a1 : Int) (l : List Int) {k : Nat} (hk : 3200 ≤ k) : peaveyref01_Apart.f k a0 a1 l = mark_Apart.f a0 a1 l := by
  unfold peaveyref01_Apart.f mark_Apart.f
  rw [refOffice_is a0 a1 l (by omega), Option.bind_some]
  by_cases ho : officeN a0 a1 l = 0
  · have hz := office_zero ho
    rw [if_pos ho, if_neg (fun h => h ho), refApart_is l a1 (marks_of ho) (by omega) hk, Option.bind_some, apartV, apartF_is ho]
    cases pairN l a1 with
    | none => rfl
    | some p =>
      obtain ⟨i, j⟩ := p
      show (if ((i : Int)) ≥ 0 then _ else _) = _
      rw [if_pos (by omega)]; rfl
  · rw [if_neg ho, if_pos ho]; rfl
theorem refClash_is (a0 a1 : Int) (l : List Int) (x y : Int) {k : Nat} (hk : 1200 ≤ k) : peaveyref01_Clash.f k a0 a1 l x y = mark_Clash.f a0 a1 l x y := by
  obtain ⟨k, rfl⟩ : ∃ j, k = j + 1 := ⟨k - 1, by omega⟩
  unfold peaveyref01_Clash.f mark_Clash.f
  rw [refOffice_is a0 a1 l (by omega), Option.bind_some]
  by_cases ho : officeN a0 a1 l = 0
  · have hm := marks_of ho
    rw [if_pos ho, if_neg (fun h => h ho)]
    unfold peaveyref01_IsOwner.f
    have hx : outB 0 ((l.length : Int) - 1) x = !(decide (0 ≤ x) && decide (x < (l.length : Int))) := by
      unfold outB; rw [Bool.eq_iff_iff]; simp; omega
    have hy : outB 0 ((l.length : Int) - 1) y = !(decide (0 ≤ y) && decide (y < (l.length : Int))) := by
      unfold outB; rw [Bool.eq_iff_iff]; simp; omega
    rw [hx, hy]
    by_cases c1 : 0 ≤ x ∧ x < (l.length : Int)
    · have e1 : (decide (0 ≤ x) && decide (x < (l.length : Int))) = true := by simp [c1.1, c1.2]
      rw [e1, if_pos c1.1, decide_eq_true c1.2, Option.bind_some, if_pos rfl]
      by_cases c2 : 0 ≤ y ∧ y < (l.length : Int)
      · have e2 : (decide (0 ≤ y) && decide (y < (l.length : Int))) = true := by simp [c2.1, c2.2]
        rw [e2, if_pos c2.1, decide_eq_true c2.2, Option.bind_some]
        rw [peaveyref01_Clash.j0, if_neg (by simp), clashV]
        by_cases e : x = y
        · rw [if_pos e, if_pos e]; rfl
        · rw [if_neg e, if_neg e, if_pos c1.1, if_pos c1.2, if_pos c2.1, if_pos c2.2]
          obtain ⟨i, rfl⟩ := Int.eq_ofNat_of_zero_le c1.1
          obtain ⟨j, rfl⟩ := Int.eq_ofNat_of_zero_le c2.1
          have hi : i < l.length := by omega
          have hj : j < l.length := by omega
          rw [farI_mk hm hi hj, (hm i hi).1, (hm j hj).1, refBoth_is _ _ a1 (hm i hi).2 (hm j hj).2 (by omega), Option.bind_some]
          by_cases h : (farN (mk l i) (mk l j) : Int) ≤ a1
          · have h2 : ¬ bothV (mk l i) (mk l j) a1 < 0 := fun h' => (bothV_neg _ _ _).1 h' h
            rw [if_neg h2, if_pos h, bothV, if_pos h, i64_and_nat _ _ (hm i hi).2 (hm j hj).2]; rfl
          · rw [if_pos ((bothV_neg _ _ _).2 h), if_neg h]; rfl
      · have e2 : (decide (0 ≤ y) && decide (y < (l.length : Int))) = false := by
          rw [Bool.and_eq_false_iff]; simp; omega
        rw [e2]
        by_cases c3 : y ≥ 0
        · rw [if_pos c3, decide_eq_false (by omega), Option.bind_some, peaveyref01_Clash.j0, Bool.not_false, if_pos rfl]; rfl
        · rw [if_neg c3, Option.bind_some, peaveyref01_Clash.j0, Bool.not_false, if_pos rfl]; rfl
    · have e1 : (decide (0 ≤ x) && decide (x < (l.length : Int))) = false := by
        rw [Bool.and_eq_false_iff]; simp; omega
      rw [e1]
      by_cases c3 : x ≥ 0
      · rw [if_pos c3, decide_eq_false (by omega), Option.bind_some, if_neg (by simp), peaveyref01_Clash.j0, if_pos rfl]; rfl
      · rw [if_neg c3, Option.bind_some, if_neg (by simp), peaveyref01_Clash.j0, if_pos rfl]; rfl
  · rw [if_neg ho, if_pos ho]; rfl

theorem margin_loop {a0 a1 : Int} {l : List Int} (ho : officeN a0 a1 l = 0) : ∀ (m : Nat) (loss : Int), loss + 1 = m → marOut a0 l l.length ≤ loss → loss ≤ a0 → ∀ k, m + 3200 < k → peaveyref01_Margin.l0 k loss a0 a1 l = some (marOut a0 l l.length, 0)
  | 0, loss, hl, hle, _, k + 1, _ => by
    have := marOut_ge ho
    rw [peaveyref01_Margin.l0, if_neg (by omega), show marOut a0 l l.length = -1 by omega]
  | m + 1, loss, hl, hle, h0, k + 1, hk => by
    have hz := office_zero ho
    rw [peaveyref01_Margin.l0, if_pos (by omega), refApart_is l loss (marks_of ho) (by omega) (by omega), Option.bind_some]
    by_cases h : loss ≤ marOut a0 l l.length
    · rw [if_pos ((pairI_neg _).2 ((pair_margin ho h0).2 h)), show marOut a0 l l.length = loss by omega]
    · rw [if_neg (fun h' => h ((pair_margin ho h0).1 ((pairI_neg _).1 h'))), w64 (by omega)]
      exact margin_loop ho m (loss - 1) (by omega) (by omega) (by omega) k (by omega)
theorem refMargin_is (a0 a1 : Int) (l : List Int) {k : Nat} (hk : 3300 ≤ k) : peaveyref01_Margin.f k a0 a1 l = mark_Margin.f a0 a1 l := by
  unfold peaveyref01_Margin.f mark_Margin.f
  rw [refOffice_is a0 a1 l (by omega), Option.bind_some]
  by_cases ho : officeN a0 a1 l = 0
  · have hz := office_zero ho
    rw [if_pos ho, if_neg (fun h => h ho)]
    exact margin_loop ho (a0 + 1).toNat a0 (by omega) (marOut_le a0 l) (Int.le_refl _) k (by omega)
  · rw [if_neg ho, if_pos ho]; rfl
end Go.Proofs.Ytbhcchhhpmlpmaa.Hand

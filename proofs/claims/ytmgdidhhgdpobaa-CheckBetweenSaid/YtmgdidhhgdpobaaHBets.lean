/- Between, in numbers: the ends, and that the reference's are the same; likewise Likely. -/
import Derived.Test.YtmgdidhhgdpobaaHRare
import Derived.Test.YtmgdidhhgdpobaaHC
import Derived.Test.YtmgdidhhgdpobaaPrW1
namespace Go.Proofs.Ytmgdidhhgdpobaa.Hand
set_option linter.unusedVariables false
set_option linter.unusedSimpArgs false
open Go.RowKit Go.Proofs.YtmgdidhhgdpobaaW.PrintWords Go.Proofs.YtmgdidhhgdpobaaW.PrintLast Go.Proofs.Ytmgdidhhgdpobaa.PrR Go.Proofs.Ytmgdidhhgdpobaa.PrV Go.Proofs.Ytmgdidhhgdpobaa.PrW

/-- is a number of wrong logs too great, or too small? -/
def badB (a s f n d w : Nat) : Bool := decide (GreatN a s f n d w) || decide (SmallN a s f n d w)
theorem outOf_is (a w s f n d : Nat) (ha : a ≤ 50) (hs : s ≤ a) (hf : f ≤ s) (hw : w ≤ a) (hr : 2 * n < d) (hd : d ≤ 1000) :
    outOf (binom a s : Int) (uptoN (a : Int) (w : Int) (s : Int) (f : Int)) (justN (a : Int) (w : Int) (s : Int) (f : Int)) (n : Int) (d : Int) = badB a s f n d w := by
  have hb := binom_le50 a s ha
  have hu := UU_le a s f w hf hw
  have hl := UU_LL a s f w
  have e : (binom a s : Int) - ((UU a s f w : Nat) : Int) + ((binom w f * binom (a - w) (s - f) : Nat) : Int) = ((binom a s - LL a s f w : Nat) : Int) := by omega
  unfold outOf badB
  rw [uptoN_UU a w s f hw, justN_nat a w s f hw hf, e, rareB_nat _ _ _ _ (by omega) hb hd (by omega), rareB_nat _ _ _ _ (by omega) hb hd (by omega)]
  rfl

/-- the ends of what is not bad, among the first numbers -/
def endsTo (bad : Nat → Bool) (n : Nat) : Int × Int := (List.range n).foldl (fun lh k => if bad k then lh else (if lh.1 < 0 then (k : Int) else lh.1, (k : Int))) (-1, 0)
theorem endsTo_succ (bad : Nat → Bool) (n : Nat) : endsTo bad (n + 1) = if bad n then endsTo bad n else (if (endsTo bad n).1 < 0 then (n : Int) else (endsTo bad n).1, (n : Int)) := by
  unfold endsTo
  rw [List.range_succ, List.foldl_append]
  rfl
theorem endsTo_is (bad : Nat → Bool) : ∀ n, ((∀ k, k < n → bad k = true) ∧ endsTo bad n = (-1, 0)) ∨
    ∃ lo hi : Nat, endsTo bad n = ((lo : Int), (hi : Int)) ∧ lo ≤ hi ∧ hi < n ∧ bad lo = false ∧ bad hi = false ∧ (∀ k, k < lo → bad k = true) ∧ (∀ k, hi < k → k < n → bad k = true)
  | 0 => .inl ⟨fun k h => by omega, rfl⟩
  | n + 1 => by
    rw [endsTo_succ]
    cases hb : bad n
    · simp only [Bool.false_eq_true, if_false]
      rcases endsTo_is bad n with ⟨h1, h2⟩ | ⟨lo, hi, h1, h2, h3, h4, h5, h6, h7⟩
      · rw [h2]
        exact .inr ⟨n, n, rfl, Nat.le_refl n, by omega, hb, hb, h1, fun k q1 q2 => by omega⟩
      · rw [h1, if_neg (by omega)]
        exact .inr ⟨lo, n, rfl, by omega, by omega, h4, hb, h6, fun k q1 q2 => by omega⟩
    · simp only [if_true]
      rcases endsTo_is bad n with ⟨h1, h2⟩ | ⟨lo, hi, h1, h2, h3, h4, h5, h6, h7⟩
      · refine .inl ⟨fun k hk => ?_, h2⟩
        by_cases e : k = n
        · subst e; exact hb
        · exact h1 k (by omega)
      · refine .inr ⟨lo, hi, h1, h2, by omega, h4, h5, h6, fun k q1 q2 => ?_⟩
        by_cases e : k = n
        · subst e; exact hb
        · exact h7 k q1 (by omega)
theorem foldl_ext {α β : Type} (f g : α → β → α) : ∀ (l : List β) (x : α), (∀ b, b ∈ l → ∀ x, f x b = g x b) → l.foldl f x = l.foldl g x
  | [], _, _ => rfl
  | b :: l, x, h => by
    rw [List.foldl_cons, List.foldl_cons, h b (by simp) x]
    exact foldl_ext f g l _ fun c hc => h c (by simp [hc])
theorem betN_ends (a s f n d : Nat) (ha : a ≤ 50) (hs : s ≤ a) (hf : f ≤ s) (hr : 2 * n < d) (hd : d ≤ 1000) : betN (a : Int) (s : Int) (f : Int) (n : Int) (d : Int) = endsTo (badB a s f n d) (a + 1) := by
  unfold betN endsTo
  rw [Int.toNat_natCast]
  refine foldl_ext _ _ _ _ fun k hk x => ?_
  have hk := List.mem_range.1 hk
  unfold betStep
  simp only [Int.toNat_natCast]
  have h := outOf_is a k s f n d ha hs hf (by omega) hr hd
  simp only [h]
/-- the ends: what is below is too small, what is above too great, what is within neither -/
theorem bet_ends (a s f n d : Nat) (ha : a ≤ 50) (hs : s ≤ a) (hf : f ≤ s) (hr : 2 * n < d) (hd : d ≤ 1000) : ∃ lo hi : Nat, betN (a : Int) (s : Int) (f : Int) (n : Int) (d : Int) = ((lo : Int), (hi : Int)) ∧ lo ≤ hi ∧ hi ≤ a ∧
    (∀ w, w ≤ a → (SmallN a s f n d w ↔ w < lo)) ∧ (∀ w, w ≤ a → (GreatN a s f n d w ↔ hi < w)) := by
  rw [betN_ends a s f n d ha hs hf hr hd]
  obtain ⟨w0, g1, g2, g3⟩ := between_some (num := n) (den := d) hs hf hr
  have hg : badB a s f n d w0 = false := by unfold badB; rw [decide_eq_false g2, decide_eq_false g3]; rfl
  rcases endsTo_is (badB a s f n d) (a + 1) with ⟨h1, _⟩ | ⟨lo, hi, h1, h2, h3, h4, h5, h6, h7⟩
  · rw [h1 w0 (by omega)] at hg; cases hg
  · have n1 : ¬ GreatN a s f n d lo ∧ ¬ SmallN a s f n d lo := by
      unfold badB at h4
      rw [Bool.or_eq_false_iff] at h4
      exact ⟨decide_eq_false_iff_not.1 h4.1, decide_eq_false_iff_not.1 h4.2⟩
    have n2 : ¬ GreatN a s f n d hi ∧ ¬ SmallN a s f n d hi := by
      unfold badB at h5
      rw [Bool.or_eq_false_iff] at h5
      exact ⟨decide_eq_false_iff_not.1 h5.1, decide_eq_false_iff_not.1 h5.2⟩
    refine ⟨lo, hi, h1, h2, by omega, fun w hw => ⟨fun q => ?_, fun q => ?_⟩, fun w hw => ⟨fun q => ?_, fun q => ?_⟩⟩
    · apply Decidable.byContradiction
      intro hc
      exact n1.2 (small_down hf (by omega) hw q)
    · have hb := h6 w q
      unfold badB at hb
      rw [Bool.or_eq_true] at hb
      rcases hb with hb | hb
      · exact absurd (great_up hf (Nat.le_of_lt q) (by omega) (of_decide_eq_true hb)) n1.1
      · exact of_decide_eq_true hb
    · apply Decidable.byContradiction
      intro hc
      exact n2.1 (great_up hf (by omega) (by omega) q)
    · have hb := h7 w q (by omega)
      unfold badB at hb
      rw [Bool.or_eq_true] at hb
      rcases hb with hb | hb
      · exact of_decide_eq_true hb
      · exact absurd (small_down hf (Nat.le_of_lt q) hw (of_decide_eq_true hb)) n2.2

theorem great_ref (a s f n d w : Nat) (ha : a ≤ 50) (hs : s ≤ a) (hf : f ≤ s) (hw : w ≤ a) (hr : 2 * n < d) (hd : d ≤ 1000) (k : Nat) (hk : 200 ≤ k) : peaveyref10_Great.f k a w s f n d = some (decide (GreatN a s f n d w)) := by
  have hb := binom_le50 a s ha
  have hu := UU_le a s f w hf hw
  unfold peaveyref10_Great.f
  rw [upto_is (a : Int) (w : Int) (s : Int) (f : Int) (by omega) (by omega) (by omega) (by omega) (by omega) (by omega) k (by omega), choices_is (a : Int) (s : Int) (by omega) k (by omega), choN_nat, uptoN_UU a w s f hw]
  simp only [Option.bind_some, rare_ref]
  rw [rareB_nat _ _ _ _ (by omega) hb hd (by omega)]
  rfl
theorem upto_before (a s f w : Nat) (ha : a ≤ 50) (hs : s ≤ a) (hf : f ≤ s) (hw : w ≤ a) (k : Nat) (hk : 200 ≤ k) : peaveyref10_UpTo.f k a w s (wrap64 ((f : Int) - 1)) = some ((LL a s f w : Nat) : Int) := by
  rcases Nat.eq_zero_or_pos f with h0 | h0
  · subst h0
    obtain ⟨k, rfl⟩ : ∃ j, k = j + 1 := ⟨k - 1, by omega⟩
    have e : wrap64 (((0 : Nat) : Int) - 1) = -1 := by rw [wrap64_in (by omega)]; omega
    unfold peaveyref10_UpTo.f
    rw [e, peaveyref10_UpTo.l0, if_neg (by decide)]
    rfl
  · obtain ⟨g, rfl⟩ : ∃ g, f = g + 1 := ⟨f - 1, by omega⟩
    have e : wrap64 (((g + 1 : Nat) : Int) - 1) = (g : Int) := by rw [wrap64_in (by omega)]; omega
    rw [e, upto_is (a : Int) (w : Int) (s : Int) (g : Int) (by omega) (by omega) (by omega) (by omega) (by omega) (by omega) k (by omega), uptoN_UU a w s g hw]
    rfl
theorem small_ref (a s f n d w : Nat) (ha : a ≤ 50) (hs : s ≤ a) (hf : f ≤ s) (hw : w ≤ a) (hr : 2 * n < d) (hd : d ≤ 1000) (k : Nat) (hk : 200 ≤ k) : peaveyref10_Small.f k a w s f n d = some (decide (SmallN a s f n d w)) := by
  have hb := binom_le50 a s ha
  have hu := UU_le a s f w hf hw
  have hl := LL_le_UU a s f w
  have e : (binom a s : Int) - ((LL a s f w : Nat) : Int) = ((binom a s - LL a s f w : Nat) : Int) := by omega
  unfold peaveyref10_Small.f
  rw [upto_before a s f w ha hs hf hw k hk, choices_is (a : Int) (s : Int) (by omega) k (by omega), choN_nat]
  simp only [Option.bind_some, rare_ref]
  rw [e, wrap64_in (by omega), rareB_nat _ _ _ _ (by omega) hb hd (by omega)]
  rfl
theorem bet_loop (a s f n d : Nat) (ha : a ≤ 50) (hs : s ≤ a) (hf : f ≤ s) (hr : 2 * n < d) (hd : d ≤ 1000) : ∀ (m w : Nat) (b : Bool) (lo hi : Int), w + m = a + 1 → (b = false ∧ endsTo (badB a s f n d) w = (-1, 0) ∧ lo = 0 ∧ hi = 0 ∨ b = true ∧ 0 ≤ lo ∧ endsTo (badB a s f n d) w = (lo, hi)) →
    (∃ lo hi : Nat, endsTo (badB a s f n d) (a + 1) = ((lo : Int), (hi : Int))) → ∀ k, 300 + 2 * m < k → peaveyref10_Between.l0 k a s f b w n d lo hi = some ((endsTo (badB a s f n d) (a + 1)).1, (endsTo (badB a s f n d) (a + 1)).2, 0)
  | 0, w, b, lo, hi, hw, hI, hE, k + 1, hk => by
    obtain rfl : w = a + 1 := by omega
    rw [peaveyref10_Between.l0, if_neg (by omega)]
    rcases hI with ⟨_, h, _, _⟩ | ⟨_, _, h⟩
    · obtain ⟨x, y, hx⟩ := hE
      rw [h] at hx
      have := (Prod.mk.injEq _ _ _ _).mp hx
      omega
    · rw [h]
  | m + 1, w, b, lo, hi, hw, hI, hE, 0, hk => by omega
  | m + 1, w, b, lo, hi, hw, hI, hE, 1, hk => by omega
  | m + 1, w, b, lo, hi, hw, hI, hE, k + 2, hk => by
    have hle : (w : Int) ≤ (a : Int) := by omega
    have hes := endsTo_succ (badB a s f n d) w
    have ih := fun b lo hi h => bet_loop a s f n d ha hs hf hr hd m (w + 1) b lo hi (by omega) h hE k (by omega)
    rw [peaveyref10_Between.l0, if_pos hle, great_ref a s f n d w ha hs hf (by omega) hr hd (k + 1) (by omega), Option.bind_some]
    have hj : ∀ x : Bool, badB a s f n d w = x → peaveyref10_Between.j1 (k + 1) a s f b w x n d lo hi = some ((endsTo (badB a s f n d) (a + 1)).1, (endsTo (badB a s f n d) (a + 1)).2, 0) := by
      intro x hx
      rw [peaveyref10_Between.j1, wsucc w (by omega)]
      rw [hx] at hes
      cases x
      · simp only [Bool.false_eq_true, if_false] at hes ⊢
        rcases hI with ⟨rfl, h, _, _⟩ | ⟨rfl, h0, h⟩
        · rw [h] at hes
          simp only [Bool.false_eq_true, if_false]
          exact ih true w w (.inr ⟨rfl, by omega, by rw [hes]; rfl⟩)
        · rw [h] at hes
          simp only [if_true]
          exact ih true lo w (.inr ⟨rfl, h0, by rw [hes]; simp only; rw [if_neg (by omega)]⟩)
      · simp only [if_true] at hes ⊢
        exact ih b lo hi (by rw [hes]; exact hI)
    by_cases hg : GreatN a s f n d w
    · rw [decide_eq_true hg, if_pos rfl]
      exact hj true (by unfold badB; rw [decide_eq_true hg]; rfl)
    · rw [decide_eq_false hg, if_neg (by decide), small_ref a s f n d w ha hs hf (by omega) hr hd (k + 1) (by omega), Option.bind_some]
      exact hj _ (by unfold badB; rw [decide_eq_false hg]; rfl)
theorem between_ref (a0 a1 a2 a3 a4 : Int) (k : Nat) (hk : 500 ≤ k) : peaveyref10_Between.f k a0 a1 a2 a3 a4 = check_Between.f a0 a1 a2 a3 a4 := by
  unfold peaveyref10_Between.f check_Between.f
  simp only [isCase_is, isRisk_ref, Option.bind_some]
  cases hc : caseB a0 0 a1 a2
  · rfl
  · cases hr : riskOk a3 a4
    · rfl
    · obtain ⟨p1, p2, _, _, p5, p6, p7, p8⟩ := case_in hc
      obtain ⟨n, d, rfl, rfl, q1, q2⟩ := risk_nat hr
      obtain ⟨a, rfl⟩ := Int.eq_ofNat_of_zero_le (show 0 ≤ a0 by omega)
      obtain ⟨s, rfl⟩ := Int.eq_ofNat_of_zero_le p5
      obtain ⟨f, rfl⟩ := Int.eq_ofNat_of_zero_le p7
      obtain ⟨lo, hi, h1, _⟩ := bet_ends a s f n d (by omega) (by omega) (by omega) q1 q2
      have he := betN_ends a s f n d (by omega) (by omega) (by omega) q1 q2
      simp only [if_true]
      rw [he] at h1 ⊢
      exact bet_loop a s f n d (by omega) (by omega) (by omega) q1 q2 (a + 1) 0 false 0 0 (by omega) (.inl ⟨rfl, rfl, rfl, rfl⟩) ⟨lo, hi, h1⟩ k (by omega)

theorem likeN_in (a s f : Int) (ha : a ≤ 50) (hs : s ≤ a) (hf : 0 ≤ f ∧ f ≤ s) : ∀ n : Nat, (n : Int) ≤ a → ∃ w : Nat, w ≤ n ∧ likeN a s f (n + 1) = ((w : Int), justN a w s f)
  | 0, h => by
    have := (justN_bound (a := a) (w := 0) (s := s) (f := f) ha (by omega) (by omega) hf.1 hf.2).1
    refine ⟨0, Nat.le_refl 0, ?_⟩
    rw [likeN, if_pos (by show (-1 : Int) < _; simpa using (show (-1 : Int) < justN a 0 s f by omega))]
  | n + 1, h => by
    obtain ⟨w, h1, h2⟩ := likeN_in a s f ha hs hf n (by omega)
    rw [likeN]
    split
    · exact ⟨n + 1, Nat.le_refl _, rfl⟩
    · exact ⟨w, by omega, h2⟩
theorem like_loop (a s f : Nat) (ha : a ≤ 50) (hs : s ≤ a) (hf : f ≤ s) : ∀ (m n w : Nat), n + m = a → likeN a s f (n + 1) = ((w : Int), justN a w s f) → w ≤ n → ∀ k, 100 + m < k → peaveyref10_Likely.l0 k a s f w ((n + 1 : Nat) : Int) = some ((likeN a s f (a + 1)).1, 0)
  | 0, n, w, hn, hI, hw, k + 1, hk => by
    obtain rfl : n = a := by omega
    rw [peaveyref10_Likely.l0, if_neg (by omega), hI]
  | m + 1, n, w, hn, hI, hw, k + 1, hk => by
    have hle : ((n + 1 : Nat) : Int) ≤ (a : Int) := by omega
    rw [peaveyref10_Likely.l0, if_pos hle, just_is (a : Int) ((n + 1 : Nat) : Int) (s : Int) (f : Int) (by omega) (by omega) (by omega) (by omega) (by omega) (by omega) k (by omega), just_is (a : Int) (w : Int) (s : Int) (f : Int) (by omega) (by omega) (by omega) (by omega) (by omega) (by omega) k (by omega), wsucc (n + 1) (by omega)]
    simp only [Option.bind_some]
    have hs2 : likeN a s f (n + 1 + 1) = if (likeN a s f (n + 1)).2 < justN a ((n + 1 : Nat) : Int) s f then (((n + 1 : Nat) : Int), justN a ((n + 1 : Nat) : Int) s f) else likeN a s f (n + 1) := rfl
    rw [hI] at hs2
    by_cases hlt : justN (a : Int) (w : Int) (s : Int) (f : Int) < justN (a : Int) ((n + 1 : Nat) : Int) (s : Int) (f : Int)
    · rw [if_pos hlt]
      rw [if_pos (show ((w : Int), justN (a : Int) (w : Int) (s : Int) (f : Int)).2 < justN (a : Int) ((n + 1 : Nat) : Int) (s : Int) (f : Int) from hlt)] at hs2
      exact like_loop a s f ha hs hf m (n + 1) (n + 1) (by omega) hs2 (Nat.le_refl _) k (by omega)
    · rw [if_neg hlt]
      rw [if_neg (show ¬ ((w : Int), justN (a : Int) (w : Int) (s : Int) (f : Int)).2 < justN (a : Int) ((n + 1 : Nat) : Int) (s : Int) (f : Int) from hlt)] at hs2
      exact like_loop a s f ha hs hf m (n + 1) w (by omega) hs2 (by omega) k (by omega)
theorem likely_ref (a0 a1 a2 : Int) (k : Nat) (hk : 200 ≤ k) : peaveyref10_Likely.f k a0 a1 a2 = check_Likely.f a0 a1 a2 := by
  unfold peaveyref10_Likely.f check_Likely.f
  simp only [isCase_is, Option.bind_some]
  cases hc : caseB a0 0 a1 a2
  · rfl
  · obtain ⟨p1, p2, _, _, p5, p6, p7, p8⟩ := case_in hc
    obtain ⟨a, rfl⟩ := Int.eq_ofNat_of_zero_le (show 0 ≤ a0 by omega)
    obtain ⟨s, rfl⟩ := Int.eq_ofNat_of_zero_le p5
    obtain ⟨f, rfl⟩ := Int.eq_ofNat_of_zero_le p7
    obtain ⟨w, hw, hl⟩ := likeN_in (a : Int) (s : Int) (f : Int) (by omega) (by omega) (by omega) 0 (by omega)
    obtain rfl : w = 0 := by omega
    simp only [if_true, Int.toNat_natCast]
    exact like_loop a s f (by omega) (by omega) (by omega) a 0 0 (by omega) hl (Nat.le_refl 0) k (by omega)
end Go.Proofs.Ytmgdidhhgdpobaa.Hand

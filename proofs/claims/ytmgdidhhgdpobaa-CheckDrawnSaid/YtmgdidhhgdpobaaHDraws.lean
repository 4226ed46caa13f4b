/- The reference's Draw, IsSample and Number are the plain ones. -/
import Derived.Test.YtmgdidhhgdpobaaHD
import Derived.Test.YtmgdidhhgdpobaaHB
import Derived.Test.YtmgdidhhgdpobaaPrU1
namespace Go.Proofs.Ytmgdidhhgdpobaa.Hand
set_option linter.unusedVariables false
set_option linter.unusedSimpArgs false
open Go.RowKit Go.Proofs.YtmgdidhhgdpobaaW.PrintWords Go.Proofs.YtmgdidhhgdpobaaW.PrintLast Go.Proofs.Ytmgdidhhgdpobaa.PrR Go.Proofs.Ytmgdidhhgdpobaa.PrU

theorem wpred (i : Nat) (h : 1 ≤ i) (hn : i ≤ 100000) : wrap64 ((i : Int) - 1) = ((i - 1 : Nat) : Int) := by rw [wrap64_in (by omega)]; omega
theorem choN_neg (n : Int) : choN n (-1) = 0 := by unfold choN; rw [if_pos (.inl (by omega))]
set_option maxHeartbeats 1000000 in
theorem draw_loop (a s : Nat) (ha : a ≤ 50) (hs : s ≤ a) : ∀ (n log : Nat) (pre : List Int) (left : Nat) (num : Int), log + n = a → pre.length + left = s → left ≤ n → 0 ≤ num → num ≤ 1125899906842624 → (0 < left → num < (binom n left : Int)) →
    ∀ k, n + 70 < k → peaveyref10_Draw.l0 k a s num pre log = some (pre ++ drawFrom n log left num, 0)
  | 0, log, pre, left, num, h1, h2, h3, h4, h5, h6, k + 1, hk => by
    have hge : ¬ (log : Int) < (a : Int) := by omega
    obtain rfl : left = 0 := by omega
    rw [peaveyref10_Draw.l0, if_neg hge, drawFrom_none, List.append_nil]
  | n + 1, log, pre, left, num, h1, h2, h3, h4, h5, h6, k + 1, hk => by
    have hlt : (log : Int) < (a : Int) := by omega
    have e1 : wrap64 ((a : Int) - (log : Int)) = ((n + 1 : Nat) : Int) := by rw [wrap64_in (by omega)]; omega
    have e2 : wrap64 ((s : Int) - (pre.length : Int)) = (left : Int) := by rw [wrap64_in (by omega)]; omega
    rw [peaveyref10_Draw.l0, if_pos hlt, e1, e2, wpred (n + 1) (by omega) (by omega), Nat.add_sub_cancel, wsucc log (by omega)]
    clear e1 e2
    rcases Nat.eq_zero_or_pos left with h0 | h0
    · subst h0
      have e3 : wrap64 (((0 : Nat) : Int) - 1) = -1 := by unfold wrap64; omega
      have hgt : ¬ ((0 : Nat) : Int) > 0 := by decide
      rw [e3, choices_is (n : Int) (-1) (by omega) k (by omega), choN_neg, Option.bind_some, if_neg hgt]
      have e4 : wrap64 (num - 0) = num := by rw [wrap64_in (by omega)]; omega
      rw [e4]
      clear e3 e4
      have := draw_loop a s ha hs n (log + 1) pre 0 num (by omega) h2 (by omega) h4 h5 (fun h => by omega) k (by omega)
      rw [drawFrom_none, List.append_nil] at this ⊢
      exact this
    · have hgt : (left : Int) > 0 := by omega
      have h6' := h6 h0
      obtain ⟨l, rfl⟩ : ∃ l, left = l + 1 := ⟨left - 1, by omega⟩
      have hb := binom_le50 n l (by omega)
      rw [wpred (l + 1) (by omega) (by omega), Nat.add_sub_cancel, choices_is (n : Int) (l : Int) (by omega) k (by omega), choN_nat, Option.bind_some, if_pos hgt]
      by_cases hn : num < (binom n l : Int)
      · have hlen : pre.length < 17592186044416 := by omega
        rw [if_pos hn, if_pos hlen, drawFrom_take (by omega) (by rw [Nat.add_sub_cancel]; exact hn), Nat.add_sub_cancel]
        have := draw_loop a s ha hs n (log + 1) (pre ++ [(log : Int)]) l num (by omega) (by rw [List.length_append, List.length_singleton]; omega) (by omega) h4 h5 (fun _ => hn) k (by omega)
        rw [List.append_assoc, List.singleton_append] at this
        exact_mod_cast this
      · rw [if_neg hn, drawFrom_skip (by omega) (by rw [Nat.add_sub_cancel]; omega), Nat.add_sub_cancel]
        rw [binom_succ] at h6'
        have hle : l + 1 ≤ n := by
          apply Decidable.byContradiction
          intro hc
          rw [binom_gt n (l + 1) (by omega)] at h6'
          omega
        have e5 : wrap64 (num - (binom n l : Int)) = num - (binom n l : Int) := wrap64_in (by omega)
        rw [e5]
        clear e5
        have := draw_loop a s ha hs n (log + 1) pre (l + 1) (num - (binom n l : Int)) (by omega) h2 hle (by omega) (by omega) (fun _ => by omega) k (by omega)
        exact_mod_cast this
theorem draw_is (a s num : Int) (k : Nat) (hk : 200 ≤ k) : peaveyref10_Draw.f k a s num = check_Draw.f a s num := by
  obtain ⟨k, rfl⟩ : ∃ j, k = j + 2 := ⟨k - 2, by omega⟩
  unfold peaveyref10_Draw.f check_Draw.f
  simp only [within_is, Option.bind_some]
  cases h1 : outB 1 50 a
  · cases h2 : outB 0 a s
    · have i1 := out_in h1
      have i2 := out_in h2
      obtain ⟨a, rfl⟩ := Int.eq_ofNat_of_zero_le (show 0 ≤ a by omega)
      obtain ⟨s, rfl⟩ := Int.eq_ofNat_of_zero_le i2.1
      simp only [Bool.not_false, if_true, Bool.not_true, Bool.or_self, Bool.false_eq_true, if_false, peaveyref10_Draw.j0, Int.toNat_natCast]
      by_cases h3 : num < 0
      · rw [if_pos h3, if_pos (.inl h3)]
        simp only [peaveyref10_Draw.j1, if_true]
      · rw [if_neg h3, choices_is (a : Int) (s : Int) (by omega) (k + 1) (by omega), Option.bind_some, choN_nat]
        have hb := binom_le50 a s (by omega)
        by_cases h4 : (binom a s : Int) ≤ num
        · rw [if_pos (.inr h4), decide_eq_true h4]
          simp only [peaveyref10_Draw.j1, if_true]
        · rw [if_neg (by omega), decide_eq_false h4]
          simp only [peaveyref10_Draw.j1, Bool.false_eq_true, if_false]
          have := draw_loop a s (by omega) (by omega) a 0 [] s num (by omega) (by simp) (by omega) (by omega) (by omega) (fun _ => by omega) k (by omega)
          rw [List.nil_append] at this
          exact this
    · simp only [Bool.not_false, if_true, Bool.not_true, Bool.or_true, peaveyref10_Draw.j0]
  · simp only [Bool.not_true, Bool.false_eq_true, if_false, Bool.true_or, if_true, peaveyref10_Draw.j0]

/-- from where on the next log may be -/
def nextOf (l : List Int) (i : Nat) : Int := if i = 0 then 0 else rd l ((i - 1 : Nat) : Int) + 1
theorem sample_loop (a : Int) (l : List Int) (hl : l.length ≤ 60) : ∀ (m i : Nat), i + m = l.length → 0 ≤ nextOf l i → ∀ k, m < k → peaveyref10_IsSample.l0 k a l i = some (okFrom a (nextOf l i) (l.drop i))
  | 0, i, h, _, k + 1, _ => by
    have hge : ¬ (i : Int) < (l.length : Int) := by omega
    rw [peaveyref10_IsSample.l0, if_neg hge, List.drop_eq_nil_of_le (by omega)]; rfl
  | m + 1, i, h, hn, k + 1, hk => by
    have hlt : (i : Int) < (l.length : Int) := by omega
    have h0 : (0 : Int) ≤ (i : Int) := by omega
    have hnx : nextOf l (i + 1) = rd l (i : Int) + 1 := by unfold nextOf; rw [if_neg (by omega), Nat.add_sub_cancel]
    rw [peaveyref10_IsSample.l0, if_pos hlt, if_pos h0, drop_cons_rd l i (by omega), okFrom]
    obtain ⟨x, hx⟩ : ∃ x, x = rd l (i : Int) := ⟨_, rfl⟩
    rw [← hx] at hnx ⊢
    by_cases c1 : x < 0
    · rw [if_pos c1]
      have : outB (nextOf l i) (a - 1) x = true := by rw [out_iff, Bool.not_eq_true']; exact decide_eq_false (by omega)
      rw [this]; rfl
    · rw [if_neg c1]
      by_cases c2 : x ≥ a
      · rw [if_pos c2]
        have : outB (nextOf l i) (a - 1) x = true := by rw [out_iff, Bool.not_eq_true']; exact decide_eq_false (by omega)
        rw [this]; rfl
      · rw [if_neg c2]
        have ih := sample_loop a l hl m (i + 1) (by omega) (by rw [hnx]; omega) k (by omega)
        rw [hnx] at ih
        by_cases c3 : (i : Int) > 0
        · have hp : wrap64 ((i : Int) - 1) = ((i - 1 : Nat) : Int) := wpred i (by omega) (by omega)
          have hp0 : (0 : Int) ≤ ((i - 1 : Nat) : Int) := by omega
          have hp1 : ((i - 1 : Nat) : Int) < (l.length : Int) := by omega
          have hni : nextOf l i = rd l ((i - 1 : Nat) : Int) + 1 := by unfold nextOf; rw [if_neg (by omega)]
          rw [if_pos c3, hp, if_pos hp0, if_pos hp1]
          clear hp
          by_cases c4 : x ≤ rd l ((i - 1 : Nat) : Int)
          · rw [if_pos c4]
            have : outB (nextOf l i) (a - 1) x = true := by rw [out_iff, Bool.not_eq_true']; exact decide_eq_false (by omega)
            rw [this]; rfl
          · rw [if_neg c4, wsucc i (by omega), ih]
            have : outB (nextOf l i) (a - 1) x = false := by rw [out_iff, Bool.not_eq_false']; exact decide_eq_true (by omega)
            rw [this]; rfl
        · rw [if_neg c3, wsucc i (by omega), ih]
          have hni : nextOf l i = 0 := by unfold nextOf; rw [if_pos (by omega)]
          have : outB (nextOf l i) (a - 1) x = false := by rw [out_iff, Bool.not_eq_false']; exact decide_eq_true (by omega)
          rw [this]; rfl
theorem isSample_is (a : Int) (l : List Int) (hl : l.length ≤ 60) (k : Nat) (hk : 100 ≤ k) : peaveyref10_IsSample.f k a l = some (okFrom a 0 l) :=
  sample_loop a l hl l.length 0 (by omega) (by simp [nextOf]) k (by omega)

theorem after_le (a : Int) : ∀ (l : List Int) (n : Int), n ≤ a → okFrom a n l = true → 0 ≤ afterN a l ∧ afterN a l + 1 ≤ (binom (a - n).toNat l.length : Int)
  | [], n, _, _ => by simp [afterN, binom_zero]
  | x :: l, n, hn, h => by
    simp only [okFrom, Bool.and_eq_true, Bool.not_eq_true'] at h
    have h1 := out_in h.1
    have ih := after_le a l (x + 1) (by omega) h.2
    have mono : ∀ (d : Nat) (y : Int), n ≤ y → y ≤ a → y = n + d → binom (a - y).toNat (l.length + 1) ≤ binom (a - n).toNat (l.length + 1) := fun d => by
      induction d with
      | zero => intro y _ _ e; rw [show y = n by omega]; exact Nat.le_refl _
      | succ d ihd =>
        intro y hy1 hy2 e
        have h2 := ihd (y - 1) (by omega) (by omega) (by omega)
        have h3 : (a - (y - 1)).toNat = (a - y).toNat + 1 := by omega
        rw [h3, binom_succ] at h2
        omega
    have hp : (a - x).toNat = (a - x - 1).toNat + 1 := by omega
    have hm := mono (x - n).toNat x (by omega) (by omega) (by omega)
    rw [hp, binom_succ] at hm
    rw [show a - (x + 1) = a - x - 1 by omega] at ih
    simp only [afterN, List.length_cons]
    omega
set_option maxHeartbeats 1000000 in
theorem number_inner (a : Nat) (ha : a ≤ 50) (l : List Int) (hl : l.length ≤ 60) (V : Int) (i : Nat) (hi : i < l.length) (hx : 0 ≤ rd l (i : Int) ∧ rd l (i : Int) < a)
    (hV : 1 + (binom (a - (rd l (i : Int)).toNat - 1) (l.length - i) : Int) + afterN a (l.drop (i + 1)) + V ≤ 1125899906842624) (hA : 0 ≤ afterN a (l.drop (i + 1)))
    (hnext : ∀ (n : Int) (k : Nat), 0 ≤ n → n + (binom (a - (rd l (i : Int)).toNat - 1) (l.length - i - 1) : Int) = 1 + afterN a (l.drop (i + 1)) + V → 200 + (l.length - i) * 60 < k + 60 → peaveyref10_Number.l0 k a l n (rd l (i : Int) + 1) ((i + 1 : Nat) : Int) = some (V, 0)) :
    ∀ (m log : Nat) (n : Int), log + m = (rd l (i : Int)).toNat → 0 ≤ n → n + (binom (a - log) (l.length - i) : Int) = 1 + (binom (a - (rd l (i : Int)).toNat - 1) (l.length - i) : Int) + afterN a (l.drop (i + 1)) + V →
    ∀ k, 200 + (l.length - i) * 60 + m < k + 59 → peaveyref10_Number.l1 k a l n i log = some (V, 0)
  | m, log, n, hlm, hn, hI, 0, hk => by omega
  | 0, log, n, hlm, hn, hI, k + 1, hk => by
    have hlt : (i : Int) < (l.length : Int) := by omega
    have h0 : (0 : Int) ≤ (i : Int) := by omega
    have hge : ¬ (log : Int) < rd l (i : Int) := by omega
    have e1 : wrap64 (rd l (i : Int) + 1) = rd l (i : Int) + 1 := wrap64_in (by omega)
    rw [peaveyref10_Number.l1, if_pos h0, if_pos hlt, if_neg hge, e1, wsucc i (by omega)]
    clear e1
    refine hnext n k hn ?_ (by omega)
    obtain ⟨d, hd⟩ : ∃ d, a - log = d + 1 := ⟨a - log - 1, by omega⟩
    obtain ⟨r, hr⟩ : ∃ r, l.length - i = r + 1 := ⟨l.length - i - 1, by omega⟩
    rw [hd, hr, binom_succ, show a - (rd l (i : Int)).toNat - 1 = d by omega] at hI
    rw [hr, Nat.add_sub_cancel, show a - (rd l (i : Int)).toNat - 1 = d by omega]
    omega
  | m + 1, log, n, hlm, hn, hI, k + 1, hk => by
    have hlt : (i : Int) < (l.length : Int) := by omega
    have h0 : (0 : Int) ≤ (i : Int) := by omega
    have hlt2 : (log : Int) < rd l (i : Int) := by omega
    obtain ⟨d, hd⟩ : ∃ d, a - log = d + 1 := ⟨a - log - 1, by omega⟩
    obtain ⟨r, hr⟩ : ∃ r, l.length - i = r + 1 := ⟨l.length - i - 1, by omega⟩
    have e1 : wrap64 ((a : Int) - (log : Int)) = ((d + 1 : Nat) : Int) := by rw [wrap64_in (by omega)]; omega
    have e2 : wrap64 ((l.length : Int) - (i : Int)) = ((r + 1 : Nat) : Int) := by rw [wrap64_in (by omega)]; omega
    rw [peaveyref10_Number.l1, if_pos h0, if_pos hlt, if_pos hlt2, e1, e2, wpred (d + 1) (by omega) (by omega), wpred (r + 1) (by omega) (by omega), Nat.add_sub_cancel, Nat.add_sub_cancel, choices_is (d : Int) (r : Int) (by omega) k (by omega), choN_nat, Option.bind_some, wsucc log (by omega)]
    clear e1 e2
    have hI' := hI
    rw [hd, hr, binom_succ] at hI'
    have hb : 0 ≤ (binom d (r + 1) : Int) := by omega
    have e3 : wrap64 (n + (binom d r : Int)) = n + (binom d r : Int) := wrap64_in (by rw [hr] at hV; omega)
    rw [e3]
    clear e3
    exact number_inner a ha l hl V i hi hx hV hA hnext m (log + 1) (n + (binom d r : Int)) (by omega) (by omega) (by rw [show a - (log + 1) = d by omega, hr]; rw [hr] at hI; omega) k (by omega)
theorem number_loop (a : Nat) (ha : a ≤ 50) (l : List Int) (hl : l.length ≤ 60) (V : Int) (hV0 : 1 + afterN a l + V ≤ 1125899906842624) : ∀ (m i : Nat) (next : Nat) (n : Int), i + m = l.length → okFrom a next (l.drop i) = true → next ≤ a → 0 ≤ n → afterN a (l.drop i) ≤ afterN a l →
    n + (binom (a - next) (l.length - i) : Int) = 1 + afterN a (l.drop i) + V → ∀ k, 200 + m * 60 < k → peaveyref10_Number.l0 k a l n next i = some (V, 0)
  | 0, i, next, n, hi, hok, hna, hn, hle, hI, k + 1, hk => by
    have hge : ¬ (i : Int) < (l.length : Int) := by omega
    rw [peaveyref10_Number.l0, if_neg hge]
    rw [List.drop_eq_nil_of_le (by omega), show l.length - i = 0 by omega, binom_zero] at hI
    simp only [afterN] at hI
    rw [show n = V by omega]
  | m + 1, i, next, n, hi, hok, hna, hn, hle, hI, k + 1, hk => by
    have hlt : (i : Int) < (l.length : Int) := by omega
    rw [peaveyref10_Number.l0, if_pos hlt]
    have hd := drop_cons_rd l i (by omega)
    rw [hd] at hok hI hle
    simp only [okFrom, Bool.and_eq_true, Bool.not_eq_true'] at hok
    have h1 := out_in hok.1
    have hA := after_le a (l.drop (i + 1)) (rd l (i : Int) + 1) (by omega) hok.2
    have hdl : (l.drop (i + 1)).length = l.length - i - 1 := by rw [List.length_drop]; omega
    have hr1 : l.length - i - 1 + 1 = l.length - i := by omega
    simp only [afterN, hdl, hr1] at hI hle
    have ht : ((a : Int) - rd l (i : Int) - 1).toNat = a - (rd l (i : Int)).toNat - 1 := by omega
    rw [ht] at hI hle
    refine number_inner a ha l hl V i (by omega) (by omega) (by omega) hA.1 ?_ ((rd l (i : Int)).toNat - next) next n (by omega) hn (by omega) k (by omega)
    intro n' k' hn' hI' hk'
    have := number_loop a ha l hl V hV0 m (i + 1) ((rd l (i : Int)).toNat + 1) n' (by omega) (by rw [show (((rd l (i : Int)).toNat + 1 : Nat) : Int) = rd l (i : Int) + 1 by omega]; exact hok.2) (by omega) hn' (by omega)
      (by rw [show a - ((rd l (i : Int)).toNat + 1) = a - (rd l (i : Int)).toNat - 1 by omega, show l.length - (i + 1) = l.length - i - 1 by omega]; exact hI') k' (by omega)
    rw [show (((rd l (i : Int)).toNat + 1 : Nat) : Int) = rd l (i : Int) + 1 by omega] at this
    exact this
theorem number_is (a : Int) (l : List Int) (hl : l.length ≤ 60) (k : Nat) (hk : 5000 ≤ k) : peaveyref10_Number.f k a l = check_Number.f a l := by
  unfold peaveyref10_Number.f check_Number.f
  simp only [within_is, Option.bind_some]
  cases h1 : outB 1 50 a
  · have i1 := out_in h1
    obtain ⟨a, rfl⟩ := Int.eq_ofNat_of_zero_le (show 0 ≤ a by omega)
    simp only [Bool.not_false, if_true, Bool.false_eq_true, if_false]
    rw [isSample_is (a : Int) l hl k (by omega), Option.bind_some]
    cases h2 : okFrom (a : Int) 0 l
    · rfl
    · simp only [if_true, Int.toNat_natCast]
      have hA := after_le (a : Int) l 0 (by omega) h2
      have hb := binom_le50 a l.length (by omega)
      have ht : ((a : Int) - 0).toNat = a := by omega
      rw [ht] at hA
      have := number_loop a (by omega) l hl ((binom a l.length : Int) - 1 - afterN a l) (by omega) l.length 0 0 0 (by omega) h2 (by omega) (by omega) (by simp) (by simp; omega) k (by omega)
      exact this
  · rfl
end Go.Proofs.Ytmgdidhhgdpobaa.Hand

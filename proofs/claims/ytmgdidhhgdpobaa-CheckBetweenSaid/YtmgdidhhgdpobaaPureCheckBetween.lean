/- CheckBetween: for all numbers of a boom and risks, the ends of Between part what is too small, what is too great and what is neither; with a lesser risk no range is narrower; with a risk of at most 1 / 10 the most likely number is in it. -/
import Derived.Test.YtmgdidhhgdpobaaHBtw
import Derived.Test.YtmgdidhhgdpobaaHLikes
namespace Go.Proofs.Ytmgdidhhgdpobaa.Pbtw
set_option linter.unusedVariables false
set_option linter.unusedSimpArgs false
open Go.RowKit
theorem peaveylaw10_CheckBetween.calls (x0 x1 x2 n0 n1 d0 d1 x5 : Int) (r : Bool) (W : World) (h : ∀ W : World, Calls Try.prog 12 #[.int .u8 x0, .int .u8 x1, .int .u8 x2, .agg #[.int .u16 n0, .int .u16 n1], .agg #[.int .u16 d0, .int .u16 d1], .int .u8 x5] W fun e W' => e = .returned (.bool r) ∧ Below W.heap.size W W') :
    Calls Try.prog 12 #[.int .u8 x0, .int .u8 x1, .int .u8 x2, .agg #[.int .u16 n0, .int .u16 n1], .agg #[.int .u16 d0, .int .u16 d1], .int .u8 x5] W fun e W' => e = .returned (.bool r) ∧ Below W.heap.size W W' := h W
end Go.Proofs.Ytmgdidhhgdpobaa.Pbtw
namespace Go.Proofs.Ytmgdidhhgdpobaa.Pure
set_option linter.unusedVariables false
set_option linter.unusedSimpArgs false
open Go.RowKit Go.Proofs.Ytmgdidhhgdpobaa.PrR Go.Proofs.Ytmgdidhhgdpobaa.PrD Go.Proofs.Ytmgdidhhgdpobaa.PrC Go.Proofs.Ytmgdidhhgdpobaa.Hand Go.Proofs.YtmgdidhhgdpobaaW.PrintWords Go.Proofs.YtmgdidhhgdpobaaW.PrintLast

theorem u16_in {x : Int} (h : (Lit.int .u16 x).wf = true) : 0 ≤ x ∧ x ≤ 65535 := (Lit.wf_int_iff .u16 x).1 h
theorem risk_in (x y : Int) (hx : 0 ≤ x ∧ x ≤ 65535) (hy : 0 ≤ y ∧ y ≤ 65535) : ∃ n d : Nat, peaveylaw10_Risk.f x y = some ((n : Int), (d : Int)) ∧ 2 * n < d ∧ d ≤ 1000 := by
  unfold peaveylaw10_Risk.f
  rw [wrap64_in (x := x) (by omega), wrap64_in (x := y) (by omega)]
  have t := tmod_in (x := y) (y := 1000) hy.1 (by omega)
  generalize Int.tmod y 1000 = m at *
  rw [wrap64_in (x := 1 + m) (by omega), wrap64_in (x := 1 + m + 1) (by omega), Int.tdiv_eq_ediv_of_nonneg (by omega), wrap64_in (x := (1 + m + 1) / 2) (by omega)]
  have t2 := tmod_in (x := x) (y := (1 + m + 1) / 2) hx.1 (by omega)
  generalize Int.tmod x ((1 + m + 1) / 2) = n at *
  rw [if_neg (by omega)]
  obtain ⟨n, rfl⟩ := Int.eq_ofNat_of_zero_le t2.1
  obtain ⟨m, rfl⟩ := Int.eq_ofNat_of_zero_le t.1
  exact ⟨n, 1 + m, by simp [Go.Proofs.Ytmgdidhhgdpobaa.PrD.peaveylaw10_frac.f], by omega, by omega⟩
section
variable {a s f n d m e : Nat} (hd : 0 < d) (hx : n * e ≤ m * d)
include hd hx
/-- what is too great for a lesser risk is so for a greater one -/
theorem rare_more {x C : Nat} (h : x * d ≤ C * n) : x * e ≤ C * m := by
  have h1 : x * e * d ≤ C * m * d := by
    calc x * e * d = x * d * e := by rw [Nat.mul_right_comm]
      _ ≤ C * n * e := Nat.mul_le_mul_right _ h
      _ = C * (n * e) := Nat.mul_assoc _ _ _
      _ ≤ C * (m * d) := Nat.mul_le_mul_left _ hx
      _ = C * m * d := (Nat.mul_assoc _ _ _).symm
  exact Nat.le_of_mul_le_mul_right h1 hd
end
theorem CheckBetween (x0 x1 x2 n0 n1 d0 d1 x5 : Int) (w0 : (Lit.int .u8 x0).wf = true) (w1 : (Lit.int .u8 x1).wf = true) (w2 : (Lit.int .u8 x2).wf = true) (w3 : (Lit.int .u16 n0).wf = true) (w4 : (Lit.int .u16 n1).wf = true) (w5 : (Lit.int .u16 d0).wf = true) (w6 : (Lit.int .u16 d1).wf = true) (w7 : (Lit.int .u8 x5).wf = true) :
    ∀ W : World, Calls Try.prog 12 #[.int .u8 x0, .int .u8 x1, .int .u8 x2, .agg #[.int .u16 n0, .int .u16 n1], .agg #[.int .u16 d0, .int .u16 d1], .int .u8 x5] W fun e W' => e = .returned (.bool true) ∧ Below W.heap.size W W' := by
  intro W
  obtain ⟨a, w, s, f, hb, p1, p2, p3, p4, p5, p6, p7, p8⟩ := boom_in x0 x5 x1 x2 (u8_in w0) (u8_in w7) (u8_in w1) (u8_in w2)
  obtain ⟨a, rfl⟩ := Int.eq_ofNat_of_zero_le (show 0 ≤ a by omega)
  obtain ⟨w, rfl⟩ := Int.eq_ofNat_of_zero_le p3
  obtain ⟨s, rfl⟩ := Int.eq_ofNat_of_zero_le p5
  obtain ⟨f, rfl⟩ := Int.eq_ofNat_of_zero_le p7
  obtain ⟨r1, q1, hr1, k1, k2⟩ := risk_in n0 d0 (u16_in w3) (u16_in w5)
  obtain ⟨r2, q2, hr2, k3, k4⟩ := risk_in n1 d1 (u16_in w4) (u16_in w6)
  have ha : a ≤ 50 := by omega
  have hw : w ≤ a := by omega
  have hs : s ≤ a := by omega
  have hf : f ≤ s := by omega
  obtain ⟨lo1, hi1, b1, b2, b3, b4, b5⟩ := bet_ends a s f r1 q1 ha hs hf k1 k2
  obtain ⟨lo2, hi2, c1, c2, c3, c4, c5⟩ := bet_ends a s f r2 q2 ha hs hf k3 k4
  obtain ⟨k, l1, l2, l3, l4⟩ := likeN_first a s f hs hf a (Nat.le_refl a)
  have hcase0 : caseB (a : Int) 0 (s : Int) (f : Int) = true := case_ok (by omega) (by omega) (by omega) (by omega) (by omega) (by omega) (by omega) (by omega)
  have hcase : caseB (a : Int) (w : Int) (s : Int) (f : Int) = true := case_ok (by omega) (by omega) (by omega) (by omega) (by omega) (by omega) (by omega) (by omega)
  have risk1 : riskOk (r1 : Int) (q1 : Int) = true := decide_eq_true (by omega)
  have risk2 : riskOk (r2 : Int) (q2 : Int) = true := decide_eq_true (by omega)
  have hbd := binom_le50 a s ha
  have hU := UU_le a s f w hf hw
  have hUL := UU_JJ a s f w
  have mid := mode_mid a s f k (by omega) ha hs hf l1 (mode_at a s f k hs hf l1 l3 l4)
  have hq1 : 0 < q1 := by omega
  have hq2 : 0 < q2 := by omega
  refine btw_any x0 x1 x2 n0 n1 d0 d1 x5 a w s f r1 q1 r2 q2 W hb lo1 hi1 lo2 hi2 k (decide (r2 * q1 ≤ r1 * q2)) ha hw hs hf k1 k2 k3 k4 ?_ ?_ ?_ b2 b3 l1 ?_ ?_ ?_ (UU a s f w) (JJ a s f w) (binom a s) (binom a s - UU a s f w) (binom a s - LL a s f w) 200 ?_ ?_ ?_ ?_ ?_ ?_ (by omega) (by omega) (by omega) ?_ ?_ hr1 hr2
  · unfold check_Between.f; rw [hcase0, risk1, b1]; rfl
  · unfold check_Between.f; rw [hcase0, risk2, c1]; rfl
  · unfold check_Likely.f; rw [hcase0]; simp only [Int.toNat_natCast, if_true]; rw [l2]
  · intro h10
    have notG : ¬ GreatN a s f r1 q1 k := by
      intro g
      unfold GreatN at g
      have g1 : UU a s f k * (10 * r1) ≤ binom a s * r1 := Nat.le_trans (Nat.mul_le_mul_left _ h10) g
      rcases Nat.eq_zero_or_pos r1 with z | z
      · subst z
        have : 0 < UU a s f k * q1 := Nat.mul_pos (by omega) hq1
        omega
      · rw [show UU a s f k * (10 * r1) = 10 * UU a s f k * r1 by rw [Nat.mul_comm 10 (UU a s f k), Nat.mul_assoc]] at g1
        have := Nat.le_of_mul_le_mul_right g1 z
        omega
    have notS : ¬ SmallN a s f r1 q1 k := by
      intro g
      unfold SmallN at g
      have g1 : (binom a s - LL a s f k) * (10 * r1) ≤ binom a s * r1 := Nat.le_trans (Nat.mul_le_mul_left _ h10) g
      rcases Nat.eq_zero_or_pos r1 with z | z
      · subst z
        have : 0 < (binom a s - LL a s f k) * q1 := Nat.mul_pos (by omega) hq1
        omega
      · rw [show (binom a s - LL a s f k) * (10 * r1) = 10 * (binom a s - LL a s f k) * r1 by rw [Nat.mul_comm 10 (binom a s - LL a s f k), Nat.mul_assoc]] at g1
        have := Nat.le_of_mul_le_mul_right g1 z
        omega
    rw [b4 k l1] at notS
    rw [b5 k l1] at notG
    omega
  · unfold peaveylaw10_less.f
    rw [if_pos ⟨⟨by omega, by omega, by omega, by omega⟩, by omega, by omega, by omega, by omega⟩, ← Int.natCast_mul, ← Int.natCast_mul]
    congr 1
    exact decide_eq_decide.2 ⟨fun h => by omega, fun h => by omega⟩
  · intro hl
    have hl := of_decide_eq_true hl
    refine ⟨?_, ?_⟩
    · apply Decidable.byContradiction
      intro hc
      have h1 : SmallN a s f r2 q2 lo1 := (c4 lo1 (by omega)).2 (by omega)
      have h2 : SmallN a s f r1 q1 lo1 := rare_more hq2 hl h1
      have := (b4 lo1 (by omega)).1 h2
      omega
    · apply Decidable.byContradiction
      intro hc
      have h1 : GreatN a s f r2 q2 hi1 := (c5 hi1 b3).2 (by omega)
      have h2 : GreatN a s f r1 q1 hi1 := rare_more hq2 hl h1
      have := (b5 hi1 b3).1 h2
      omega
  · rw [atMost_ok hcase, uptoN_UU a w s f hw]
  · rw [samples_ok hcase, justN_nat a w s f hw hf]; rfl
  · rw [choose_ok (by omega) (by omega) (by omega) (by omega)]; rfl
  · rw [choices_is (a : Int) (s : Int) (by omega) 200 (by omega), choN_nat]
  · rw [upto_is (a : Int) (w : Int) (s : Int) (f : Int) (by omega) (by omega) (by omega) (by omega) (by omega) (by omega) 200 (by omega), uptoN_UU a w s f hw]
  · rw [just_is (a : Int) (w : Int) (s : Int) (f : Int) (by omega) (by omega) (by omega) (by omega) (by omega) (by omega) 200 (by omega), justN_nat a w s f hw hf]; rfl
  · rw [rareB_nat _ _ _ _ (by omega) hbd k2 (by omega)]
    exact decide_eq_decide.2 (b5 w hw)
  · rw [rareB_nat _ _ _ _ (by omega) hbd k2 (by omega)]
    exact decide_eq_decide.2 (b4 w hw)
end Go.Proofs.Ytmgdidhhgdpobaa.Pure

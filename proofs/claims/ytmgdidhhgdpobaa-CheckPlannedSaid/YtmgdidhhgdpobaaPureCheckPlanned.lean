/- CheckPlanned: for any valid test, the plan that is returned is right, no given plan before it is, and a right plan stays right for an easier test. -/
import Derived.Test.YtmgdidhhgdpobaaHPld
import Derived.Test.YtmgdidhhgdpobaaHPlans
import Derived.Test.YtmgdidhhgdpobaaHD
import Derived.Test.YtmgdidhhgdpobaaHRare
namespace Go.Proofs.Ytmgdidhhgdpobaa.Ppl
set_option linter.unusedVariables false
set_option linter.unusedSimpArgs false
open Go.RowKit
abbrev Goes (a0 a1 a2 a3 a4 a5 a6 x1 x2 x3 x4 : Int) (r : Bool) (W : World) : Prop := Calls Try.prog 13 #[.agg #[.int .i64 a0, .int .i64 a1, .int .i64 a2, .int .i64 a3, .int .i64 a4, .int .i64 a5, .int .i64 a6], .int .u8 x1, .int .u8 x2, .int .u8 x3, .int .u8 x4] W fun e W' => e = .returned (.bool r) ∧ Below W.heap.size W W'
theorem peaveylaw10_CheckPlanned.calls (a0 a1 a2 a3 a4 a5 a6 x1 x2 x3 x4 : Int) (r : Bool) (W : World) (h : ∀ W : World, Goes a0 a1 a2 a3 a4 a5 a6 x1 x2 x3 x4 r W) : Goes a0 a1 a2 a3 a4 a5 a6 x1 x2 x3 x4 r W := h W
end Go.Proofs.Ytmgdidhhgdpobaa.Ppl
namespace Go.Proofs.Ytmgdidhhgdpobaa.Pure
set_option linter.unusedVariables false
set_option linter.unusedSimpArgs false
open Go.RowKit Go.Proofs.Ytmgdidhhgdpobaa.PrR Go.Proofs.Ytmgdidhhgdpobaa.PrV Go.Proofs.Ytmgdidhhgdpobaa.PrT Go.Proofs.Ytmgdidhhgdpobaa.PrC Go.Proofs.Ytmgdidhhgdpobaa.Hand Go.Proofs.YtmgdidhhgdpobaaW.PrintWords Go.Proofs.YtmgdidhhgdpobaaW.PrintLast

theorem right_nat (a g b n1 d1 n2 d2 p q : Nat) (ha : a ≤ 50) (hg : g ≤ a) (hb : b ≤ a) (hp : p ≤ a) (hq : q ≤ p) (h1 : 2 * n1 < d1) (h2 : d1 ≤ 1000) (h3 : 2 * n2 < d2) (h4 : d2 ≤ 1000) :
    rightB (a : Int) (g : Int) (b : Int) (n1 : Int) (d1 : Int) (n2 : Int) (d2 : Int) (p : Int) (q : Int) = (decide ((binom a p - UU a p q g) * d1 ≤ binom a p * n1) && decide (UU a p q b * d2 ≤ binom a p * n2)) := by
  have hc := binom_le50 a p ha
  have u1 := UU_le a p q g hq hg
  have u2 := UU_le a p q b hq hb
  have e : (binom a p : Int) - ((UU a p q g : Nat) : Int) = ((binom a p - UU a p q g : Nat) : Int) := by omega
  unfold rightB goodN
  simp only [Int.toNat_natCast]
  rw [uptoN_UU a g p q hg, uptoN_UU a b p q hb, e, rareB_nat _ _ _ _ (by omega) hc h2 (by omega), rareB_nat _ _ _ _ (by omega) hc h4 (by omega)]
theorem right_easier {a g b n1 d1 n2 d2 p q g' b' n1' n2' : Nat} (ha : a ≤ 50) (hg : g ≤ a) (hb : b ≤ b') (hb' : b' ≤ a) (hg' : g' ≤ g) (hp : p ≤ a) (hq : q ≤ p) (m1 : n1 ≤ n1') (m2 : n2 ≤ n2') (h1 : 2 * n1' < d1) (h2 : d1 ≤ 1000) (h3 : 2 * n2' < d2) (h4 : d2 ≤ 1000)
    (h : rightB (a : Int) (g : Int) (b : Int) (n1 : Int) (d1 : Int) (n2 : Int) (d2 : Int) (p : Int) (q : Int) = true) : rightB (a : Int) (g' : Int) (b' : Int) (n1' : Int) (d1 : Int) (n2' : Int) (d2 : Int) (p : Int) (q : Int) = true := by
  rw [right_nat a g b n1 d1 n2 d2 p q ha hg (by omega) hp hq (by omega) h2 (by omega) h4, Bool.and_eq_true] at h
  rw [right_nat a g' b' n1' d1 n2' d2 p q ha (by omega) hb' hp hq h1 h2 h3 h4, Bool.and_eq_true]
  have q1 := of_decide_eq_true h.1
  have q2 := of_decide_eq_true h.2
  obtain ⟨d, rfl⟩ := Nat.exists_eq_add_of_le hg'
  obtain ⟨e, rfl⟩ := Nat.exists_eq_add_of_le hb
  have w1 := UU_anti a p q hq d g' (by omega)
  have w2 := UU_anti a p q hq e b (by omega)
  refine ⟨decide_eq_true ?_, decide_eq_true ?_⟩
  · exact Nat.le_trans (Nat.mul_le_mul_right _ (by omega)) (Nat.le_trans q1 (Nat.mul_le_mul_left _ m1))
  · exact Nat.le_trans (Nat.mul_le_mul_right _ w2) (Nat.le_trans q2 (Nat.mul_le_mul_left _ m2))
theorem risk_mk {n d : Nat} (h1 : 2 * n < d) (h2 : d ≤ 1000) : riskOk (n : Int) (d : Int) = true := decide_eq_true (by omega)
theorem test_mk {a g b n1 d1 n2 d2 : Nat} (h1 : 1 ≤ a) (h2 : a ≤ 50) (h3 : 1 ≤ b) (h4 : b ≤ a) (h5 : g < b) (h6 : 2 * n1 < d1) (h7 : d1 ≤ 1000) (h8 : 2 * n2 < d2) (h9 : d2 ≤ 1000) : testN (a : Int) (g : Int) (b : Int) (n1 : Int) (d1 : Int) (n2 : Int) (d2 : Int) = 0 := by
  unfold testN
  rw [if_pos (by omega), risk_mk h6 h7, risk_mk h8 h9]; rfl
/-- one more, if it is a risk still -/
def moreN (n d : Nat) : Nat := if 2 * (n + 1) < d then n + 1 else n
theorem moreN_in {n d : Nat} (h : 2 * n < d) : n ≤ moreN n d ∧ 2 * moreN n d < d := by unfold moreN; split <;> omega
theorem u8_emod {x : Int} (h : 0 ≤ x ∧ x ≤ 255) (n : Nat) : ∃ m : Nat, x % ((n : Int) + 1) = (m : Int) ∧ m ≤ n := by
  have h1 := Int.emod_nonneg x (show ((n : Int) + 1) ≠ 0 by omega)
  have h2 := Int.emod_lt_of_pos x (show 0 < (n : Int) + 1 by omega)
  obtain ⟨m, hm⟩ := Int.eq_ofNat_of_zero_le h1
  exact ⟨m, hm, by omega⟩
set_option maxHeartbeats 4000000 in
set_option maxRecDepth 100000 in
/-- a test that is not valid -/
theorem bad_any (a0 a1 a2 a3 a4 a5 a6 x1 x2 x3 x4 : Int) (W : World) (ht : testN a0 a1 a2 a3 a4 a5 a6 ≠ 0) : Ppl.Goes a0 a1 a2 a3 a4 a5 a6 x1 x2 x3 x4 true W := by
  have hu46 := Try.underlying46
  have HT := Lib.hid (fun X => peaveyref10_CheckTest.calls 1 a0 a1 a2 a3 a4 a5 a6 _ X (checkTest_ref 0 a0 a1 a2 a3 a4 a5 a6))
  have e : (testN a0 a1 a2 a3 a4 a5 a6 != 0) = true := by rw [bne_iff_ne]; exact ht
  generalize testN a0 a1 a2 a3 a4 a5 a6 = T at *
  clear ht
  unfold Ppl.Goes
  go_enter Try.func13, Try.ntmps13
  go_wp2_with fail
  refine (HT.out _).mono ?_
  rintro e w2 ⟨rfl, hb⟩
  have HB := Lib.hid hb
  clear hb
  go_wp2_with fail
  refine (works_any _).mono ?_
  rintro e w3 ⟨rfl, hb2⟩
  have HB2 := Lib.hid hb2
  clear hb2
  go_wp2
  go_ret
  exact ⟨rfl, ((Below.refl _ _).alloc (Nat.le_refl _) _).trans ((HB.out.trans (HB2.out.mono HB.out.size)).mono (by simp))⟩
theorem CheckPlanned (a0 a1 a2 a3 a4 a5 a6 x1 x2 x3 x4 : Int) (_ : (Lit.int .i64 a0).wf = true) (_ : (Lit.int .i64 a1).wf = true) (_ : (Lit.int .i64 a2).wf = true) (_ : (Lit.int .i64 a3).wf = true) (_ : (Lit.int .i64 a4).wf = true) (_ : (Lit.int .i64 a5).wf = true) (_ : (Lit.int .i64 a6).wf = true)
    (w1 : (Lit.int .u8 x1).wf = true) (w2 : (Lit.int .u8 x2).wf = true) (w3 : (Lit.int .u8 x3).wf = true) (w4 : (Lit.int .u8 x4).wf = true) : ∀ W : World, Ppl.Goes a0 a1 a2 a3 a4 a5 a6 x1 x2 x3 x4 true W := by
  intro W
  by_cases ht : testN a0 a1 a2 a3 a4 a5 a6 = 0
  · have ti := test_in ht
    obtain ⟨s, t, q1, q2, q3, q4, q5, q6⟩ := plan_first ht
    have ho : openN a0 a1 a2 a3 a4 a5 a6 (s : Int) (t : Int) = 0 := by
      unfold openN
      rw [if_pos ht]
      have : planOk a0 (s : Int) (t : Int) = true := by simp [planOk, outB]; omega
      rw [this]; rfl
    obtain ⟨n1, d1, rfl, rfl, r1, r2⟩ := risk_nat ti.2.2.2.2.2.2.1
    obtain ⟨n2, d2, rfl, rfl, r3, r4⟩ := risk_nat ti.2.2.2.2.2.2.2
    obtain ⟨a, rfl⟩ := Int.eq_ofNat_of_zero_le (show 0 ≤ a0 by omega)
    obtain ⟨g, rfl⟩ := Int.eq_ofNat_of_zero_le ti.2.2.2.2.1
    obtain ⟨b, rfl⟩ := Int.eq_ofNat_of_zero_le (show 0 ≤ a2 by omega)
    have z1 := u8_in w1
    have z2 := u8_in w2
    have z3 := u8_in w3
    have z4 := u8_in w4
    obtain ⟨y1, rfl⟩ := Int.eq_ofNat_of_zero_le z1.1
    obtain ⟨y2, rfl⟩ := Int.eq_ofNat_of_zero_le z2.1
    obtain ⟨y3, rfl⟩ := Int.eq_ofNat_of_zero_le z3.1
    obtain ⟨y4, rfl⟩ := Int.eq_ofNat_of_zero_le z4.1
    obtain ⟨u, hu, hu'⟩ := u8_emod z1 a
    obtain ⟨v, hv, hv'⟩ := u8_emod z2 u
    obtain ⟨e3, h3, h3'⟩ := u8_emod z3 g
    obtain ⟨e4, h4, h4'⟩ := u8_emod z4 (a - b)
    have hs : s ≤ a := by omega
    have hbb := binom_le50 a s (by omega)
    have u1 := UU_le a s t g q2 (by omega)
    have u2 := UU_le a s t b q2 (by omega)
    have hgood : goodN (a : Int) (g : Int) (s : Int) (t : Int) = ((binom a s - UU a s t g : Nat) : Int) := by
      unfold goodN
      simp only [Int.toNat_natCast]
      rw [uptoN_UU a g s t (by omega)]; omega
    have hr := q3
    unfold rightB at hr
    rw [Bool.and_eq_true, hgood, uptoN_UU a b s t (by omega), Int.toNat_natCast, Int.toNat_natCast] at hr
    have m4 := moreN_in r1
    have m5 := moreN_in r3
    have fin : ∀ p q : Nat, p ≤ a → q ≤ p → rightB (a : Int) (g : Int) (b : Int) (n1 : Int) (d1 : Int) (n2 : Int) (d2 : Int) (p : Int) (q : Int) = true → check_CheckPlan.f (a : Int) ((g - e3 : Nat) : Int) ((b + e4 : Nat) : Int) (moreN n1 d1 : Int) (d1 : Int) (moreN n2 d2 : Int) (d2 : Int) (p : Int) (q : Int) = some 0 := by
      intro p q hp hq hpq
      rw [checkPlan_in (test_mk (by omega) (by omega) (by omega) (by omega) (by omega) m4.2 r2 m5.2 r4) (by omega) hq, right_easier (by omega) (g := g) (b := b) (n1 := n1) (n2 := n2) (by omega) (by omega) (by omega) (by omega) hp hq m4.1 m5.1 m4.2 r2 m5.2 r4 hpq]
      rfl
    have key : ∀ (p q : Nat) (c : Int), check_CheckPlan.f (a : Int) (g : Int) (b : Int) (n1 : Int) (d1 : Int) (n2 : Int) (d2 : Int) (u : Int) (v : Int) = some c →
        ((c = 0 ∧ ¬ u < s ∧ (u = s → ¬ v < t) ∧ p = u ∧ q = v) ∨ (c = 13 ∧ p = s ∧ q = t)) → p ≤ a → q ≤ p → rightB (a : Int) (g : Int) (b : Int) (n1 : Int) (d1 : Int) (n2 : Int) (d2 : Int) (p : Int) (q : Int) = true → Ppl.Goes a g b n1 d1 n2 d2 y1 y2 y3 y4 true W := by
      intro p q c hc hcase hp hq hpq
      refine planned_any a g b n1 d1 n2 d2 y1 y2 y3 y4 W s t (binom a s - UU a s t g) (UU a s t b) (binom a s) 1000 u v p q e3 e4 (moreN n1 d1) (moreN n2 d2) (g - e3) (b + e4) (by omega) (by omega) c (by omega) (by omega) ⟨r1, r2⟩ ⟨r3, r4⟩ (by omega) ?_ ?_ ?_ ?_ ?_ ?_ ?_ (by omega) u2 hr.1 hr.2 hu hu' hv hc ?_ hcase h3 h3' ?_ h4' rfl rfl (fin p q hp hq hpq)
      · rw [checkTest_ref 999, ht]
      · unfold check_Plan.f; rw [if_pos ht, q6]
      · rw [planned_ref 999, ho]
      · rw [checkPlan_in ht q1 q2, q3]; rfl
      · unfold check_Sides.f; rw [if_pos ho, hgood, uptoN_UU a b s t (by omega)]
      · rw [choose_ok (by omega) (by omega) (by omega) (by omega)]; rfl
      · rw [choices_is (a : Int) (s : Int) (by omega) 1000 (by omega), choN_nat]
      · rw [checkPlan_ref 1000 (by omega)]; exact hc
      · rw [show (a : Int) - (b : Int) + 1 = ((a - b : Nat) : Int) + 1 by omega]; exact h4
    have hcc := checkPlan_in ht (s := u) (t := v) (by omega) hv'
    cases hruv : rightB (a : Int) (g : Int) (b : Int) (n1 : Int) (d1 : Int) (n2 : Int) (d2 : Int) (u : Int) (v : Int)
    · rw [hruv] at hcc
      exact key s t 13 hcc (.inr ⟨rfl, rfl, rfl⟩) hs q2 q3
    · rw [hruv] at hcc
      refine key u v 0 hcc (.inl ⟨rfl, fun h => ?_, fun h h2 => ?_, rfl, rfl⟩) hu' hv' hruv
      · rw [q5 u h v hv'] at hruv; cases hruv
      · subst h; rw [q4 v h2] at hruv; cases hruv
  · exact bad_any a0 a1 a2 a3 a4 a5 a6 x1 x2 x3 x4 W ht
end Go.Proofs.Ytmgdidhhgdpobaa.Pure

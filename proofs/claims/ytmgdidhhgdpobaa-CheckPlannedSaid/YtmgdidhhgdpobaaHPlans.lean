/- The first right plan: it exists, and both programs return it. -/
import Derived.Test.YtmgdidhhgdpobaaHRefs
import Derived.Test.YtmgdidhhgdpobaaPrP1
namespace Go.Proofs.Ytmgdidhhgdpobaa.Hand
set_option linter.unusedVariables false
set_option linter.unusedSimpArgs false
open Go.RowKit Go.Proofs.YtmgdidhhgdpobaaW.PrintWords Go.Proofs.YtmgdidhhgdpobaaW.PrintLast Go.Proofs.Ytmgdidhhgdpobaa.PrR Go.Proofs.Ytmgdidhhgdpobaa.PrP

/-- a least number -/
theorem least_nat (p : Nat → Prop) : ∀ n, p n → ∃ m, p m ∧ m ≤ n ∧ ∀ j, j < m → ¬ p j := by
  intro n
  induction n using Nat.strongRecOn with
  | ind n ih =>
    intro h
    by_cases hx : ∃ j, j < n ∧ p j
    · obtain ⟨j, hj, hp⟩ := hx
      obtain ⟨m, h1, h2, h3⟩ := ih j hj hp
      exact ⟨m, h1, by omega, h3⟩
    · exact ⟨n, h, Nat.le_refl n, fun j hj hp => hx ⟨j, hj, hp⟩⟩
/-- the first pair for which something holds -/
theorem first_pair (r : Nat → Nat → Bool) (a s t : Nat) (hs : s ≤ a) (ht : t ≤ s) (h : r s t = true) :
    ∃ s' t', s' ≤ a ∧ t' ≤ s' ∧ r s' t' = true ∧ (∀ j, j < t' → r s' j = false) ∧ (∀ i, i < s' → ∀ j, j ≤ i → r i j = false) := by
  obtain ⟨s', ⟨t0, h1, h2⟩, h3, h4⟩ := least_nat (fun s => ∃ t, t ≤ s ∧ r s t = true) s ⟨t, ht, h⟩
  obtain ⟨t', ⟨h5, h6⟩, h7, h8⟩ := least_nat (fun t => t ≤ s' ∧ r s' t = true) t0 ⟨h1, h2⟩
  refine ⟨s', t', by omega, h5, h6, fun j hj => ?_, fun i hi j hj => ?_⟩
  · have := h8 j hj
    cases hr : r s' j
    · rfl
    · exact absurd ⟨by omega, hr⟩ this
  · have := h4 i hi
    cases hr : r i j
    · rfl
    · exact absurd ⟨j, hj, hr⟩ this
theorem plansOf_split (s : Nat) : ∀ (t m : Nat), t < m → ∃ rest, plansOf s m = plansOf s t ++ ((s : Int), (t : Int)) :: rest := by
  intro t m
  induction m with
  | zero => intro h; omega
  | succ m ih =>
    intro h
    rw [plansOf_succ]
    by_cases e : t = m
    · subst e; exact ⟨[], rfl⟩
    · obtain ⟨rest, hr⟩ := ih (by omega)
      exact ⟨rest ++ [((s : Int), (m : Int))], by rw [hr]; simp⟩
theorem plansTo_split : ∀ (n s : Nat), s < n → ∃ rest, plansTo n = plansTo s ++ plansOf s (s + 1) ++ rest := by
  intro n
  induction n with
  | zero => intro s h; omega
  | succ n ih =>
    intro s h
    have e : plansTo (n + 1) = plansTo n ++ plansOf n (n + 1) := rfl
    rw [e]
    by_cases hs : s = n
    · subst hs; exact ⟨[], by simp⟩
    · obtain ⟨rest, hr⟩ := ih s (by omega)
      exact ⟨rest ++ plansOf n (n + 1), by rw [hr]; simp⟩
theorem mem_plansOf {x : Int × Int} {s m : Nat} (h : x ∈ plansOf s m) : ∃ t, t < m ∧ x = ((s : Int), (t : Int)) := by
  simp only [plansOf, List.mem_map, List.mem_range] at h
  obtain ⟨t, h1, h2⟩ := h
  exact ⟨t, h1, h2.symm⟩
theorem pick_first (p : Int × Int → Bool) (a s t : Nat) (hs : s ≤ a) (ht : t ≤ s) (h : p ((s : Int), (t : Int)) = true) (h1 : ∀ j, j < t → p ((s : Int), (j : Int)) = false) (h2 : ∀ i, i < s → ∀ j, j ≤ i → p ((i : Int), (j : Int)) = false) :
    pickN p (plansTo (a + 1)) = ((s : Int), (t : Int)) := by
  obtain ⟨r1, e1⟩ := plansTo_split (a + 1) s (by omega)
  obtain ⟨r2, e2⟩ := plansOf_split s t (s + 1) (by omega)
  rw [e1, e2, show plansTo s ++ (plansOf s t ++ ((s : Int), (t : Int)) :: r2) ++ r1 = (plansTo s ++ plansOf s t) ++ ((s : Int), (t : Int)) :: (r2 ++ r1) by simp]
  refine pick_mid p _ _ _ (fun y hy => ?_) h
  rcases List.mem_append.1 hy with hy | hy
  · obtain ⟨i, j, rfl, hi, hj⟩ := mem_plansTo hy
    exact h2 i hi j hj
  · obtain ⟨j, hj, rfl⟩ := mem_plansOf hy
    exact h1 j hj
/-- a sample of all logs, and Good as Most, is right -/
theorem right_all {a0 a1 a2 a3 a4 a5 a6 : Int} (ht : testN a0 a1 a2 a3 a4 a5 a6 = 0) : rightB a0 a1 a2 a3 a4 a5 a6 a0 a1 = true := by
  obtain ⟨h1, h2, h3, h4, h5, h6, h7, h8⟩ := test_in ht
  obtain ⟨a, rfl⟩ := Int.eq_ofNat_of_zero_le (show 0 ≤ a0 by omega)
  obtain ⟨g, rfl⟩ := Int.eq_ofNat_of_zero_le h5
  obtain ⟨b, rfl⟩ := Int.eq_ofNat_of_zero_le (show 0 ≤ a2 by omega)
  have hall : ∀ w t : Nat, w ≤ a → upN w (a - w) a t = if w < t then 1 else 0 := by
    intro w t hw
    induction t with
    | zero => rfl
    | succ t ih =>
      rw [upN_succ, ih]
      by_cases e : t = w
      · subst e
        rw [binom_self, binom_self, if_neg (by omega), if_pos (by omega)]
      · by_cases e2 : t < w
        · rw [binom_gt (a - w) (a - t) (by omega), if_neg (by omega), if_neg (by omega), Nat.mul_zero]
        · rw [binom_gt w t (by omega), if_pos (by omega), if_pos (by omega)]; omega
  have e1 : uptoN (a : Int) (g : Int) (a : Int) (g : Int) = 1 := by
    unfold uptoN
    simp only [Int.toNat_natCast]
    rw [show ((a : Int) - (g : Int)).toNat = a - g by omega, hall g (g + 1) (by omega), if_pos (by omega)]; rfl
  have e2 : uptoN (a : Int) (b : Int) (a : Int) (g : Int) = 0 := by
    unfold uptoN
    simp only [Int.toNat_natCast]
    rw [show ((a : Int) - (b : Int)).toNat = a - b by omega, hall b (g + 1) (by omega), if_neg (by omega)]; rfl
  have e3 : goodN (a : Int) (g : Int) (a : Int) (g : Int) = 0 := by
    unfold goodN
    rw [e1]
    simp only [Int.toNat_natCast, binom_self]; rfl
  have q1 := of_decide_eq_true h7
  have q2 := of_decide_eq_true h8
  unfold rightB rareB
  rw [e2, e3]
  simp only [Int.toNat_natCast, binom_self]
  have z : wrap64 (0 : Int) = 0 := by unfold wrap64; omega
  have w1 : wrap64 a3 = a3 := wrap64_in (by omega)
  have w2 : wrap64 a5 = a5 := wrap64_in (by omega)
  have m1 : ((1 : Nat) : Int) * a3 = a3 := by omega
  have m2 : ((1 : Nat) : Int) * a5 = a5 := by omega
  rw [Int.zero_mul, Int.zero_mul, z, m1, m2, w1, w2, Bool.and_eq_true]
  exact ⟨decide_eq_true (by omega), decide_eq_true (by omega)⟩
section
variable {a0 a1 a2 a3 a4 a5 a6 : Int} (ht : testN a0 a1 a2 a3 a4 a5 a6 = 0)
include ht
theorem checkPlan_in {s t : Nat} (hs : (s : Int) ≤ a0) (h : t ≤ s) : check_CheckPlan.f a0 a1 a2 a3 a4 a5 a6 s t = some (if rightB a0 a1 a2 a3 a4 a5 a6 s t then 0 else 13) := by
  have e : openN a0 a1 a2 a3 a4 a5 a6 (s : Int) (t : Int) = 0 := by
    unfold openN
    rw [if_pos ht]
    have : planOk a0 (s : Int) (t : Int) = true := by simp [planOk, outB]; omega
    rw [this]; rfl
  unfold check_CheckPlan.f
  rw [e]; rfl
/-- what the loop of the reference comes to, from some plan on -/
def Comes (a0 a1 a2 a3 a4 a5 a6 : Int) (s t : Nat) (r : Int × Int × Int) : Prop := ∃ K, ∀ k, K ≤ k → peaveyref10_Plan.l0 k a0 a1 a2 a3 a4 a5 a6 s t = some r
theorem comes_here {s t : Nat} (hs : (s : Int) ≤ a0) (h : t ≤ s) (hr : rightB a0 a1 a2 a3 a4 a5 a6 s t = true) : Comes a0 a1 a2 a3 a4 a5 a6 s t (s, t, 0) := by
  refine ⟨201, fun k hk => ?_⟩
  obtain ⟨k, rfl⟩ : ∃ j, k = j + 1 := ⟨k - 1, by omega⟩
  rw [peaveyref10_Plan.l0, checkPlan_ref k (by omega), checkPlan_in ht hs h, hr]
  rfl
theorem comes_next {s t : Nat} {r : Int × Int × Int} (hs : (s : Int) ≤ a0) (h : t < s) (hr : rightB a0 a1 a2 a3 a4 a5 a6 s t = false) (hn : Comes a0 a1 a2 a3 a4 a5 a6 s (t + 1) r) : Comes a0 a1 a2 a3 a4 a5 a6 s t r := by
  have := (test_in ht).2.1
  obtain ⟨K, hK⟩ := hn
  refine ⟨K + 201, fun k hk => ?_⟩
  obtain ⟨k, rfl⟩ : ∃ j, k = j + 1 := ⟨k - 1, by omega⟩
  rw [peaveyref10_Plan.l0, checkPlan_ref k (by omega), checkPlan_in ht hs (by omega), hr, wsucc t (by omega)]
  simp only [Bool.false_eq_true, if_false, Option.bind_some]
  rw [if_neg (by decide), if_neg (by omega)]
  exact hK k (by omega)
theorem comes_over {s : Nat} {r : Int × Int × Int} (hs : (s : Int) ≤ a0) (hr : rightB a0 a1 a2 a3 a4 a5 a6 s s = false) (hn : Comes a0 a1 a2 a3 a4 a5 a6 (s + 1) 0 r) : Comes a0 a1 a2 a3 a4 a5 a6 s s r := by
  have := (test_in ht).2.1
  obtain ⟨K, hK⟩ := hn
  refine ⟨K + 201, fun k hk => ?_⟩
  obtain ⟨k, rfl⟩ : ∃ j, k = j + 1 := ⟨k - 1, by omega⟩
  rw [peaveyref10_Plan.l0, checkPlan_ref k (by omega), checkPlan_in ht hs (by omega), hr, wsucc s (by omega)]
  simp only [Bool.false_eq_true, if_false, Option.bind_some]
  rw [if_neg (by decide), if_pos (by omega)]
  exact hK k (by omega)
theorem comes_back {s t0 : Nat} {r : Int × Int × Int} (hs : (s : Int) ≤ a0) (h0 : t0 ≤ s) (hn : Comes a0 a1 a2 a3 a4 a5 a6 s t0 r) : ∀ (d t : Nat), t + d = t0 → (∀ j, j < t0 → rightB a0 a1 a2 a3 a4 a5 a6 s j = false) → Comes a0 a1 a2 a3 a4 a5 a6 s t r := by
  intro d
  induction d with
  | zero => intro t e _; rw [show t = t0 by omega]; exact hn
  | succ d ih => intro t e hf; exact comes_next ht hs (by omega) (hf t (by omega)) (ih (t + 1) (by omega) hf)
theorem comes_start {s0 t0 : Nat} (hs : (s0 : Int) ≤ a0) (h0 : t0 ≤ s0) (hr : rightB a0 a1 a2 a3 a4 a5 a6 s0 t0 = true) (h1 : ∀ j, j < t0 → rightB a0 a1 a2 a3 a4 a5 a6 s0 j = false) (h2 : ∀ i, i < s0 → ∀ j, j ≤ i → rightB a0 a1 a2 a3 a4 a5 a6 i j = false) :
    Comes a0 a1 a2 a3 a4 a5 a6 0 0 (s0, t0, 0) := by
  have key : ∀ (d s : Nat), s + d = s0 → Comes a0 a1 a2 a3 a4 a5 a6 s 0 (s0, t0, 0) := by
    intro d
    induction d with
    | zero => intro s e; rw [show s = s0 by omega]; exact comes_back ht hs h0 (comes_here ht hs h0 hr) t0 0 (by omega) h1
    | succ d ih =>
      intro s e
      have hz := comes_over ht (by omega) (h2 s (by omega) s (Nat.le_refl s)) (ih (s + 1) (by omega))
      exact comes_back ht (by omega) (Nat.le_refl s) hz s 0 (by omega) (fun j hj => h2 s (by omega) j (by omega))
  exact key s0 0 (by omega)
/-- the plan that is returned: right, and the first one -/
theorem plan_first : ∃ s t : Nat, (s : Int) ≤ a0 ∧ t ≤ s ∧ rightB a0 a1 a2 a3 a4 a5 a6 s t = true ∧ (∀ j, j < t → rightB a0 a1 a2 a3 a4 a5 a6 s j = false) ∧ (∀ i, i < s → ∀ j, j ≤ i → rightB a0 a1 a2 a3 a4 a5 a6 i j = false) ∧ planN a0 a1 a2 a3 a4 a5 a6 = ((s : Int), (t : Int)) := by
  have hall := right_all ht
  obtain ⟨h1, h2, h3, h4, h5, h6, _, _⟩ := test_in ht
  obtain ⟨a, rfl⟩ := Int.eq_ofNat_of_zero_le (show 0 ≤ a0 by omega)
  obtain ⟨g, rfl⟩ := Int.eq_ofNat_of_zero_le h5
  obtain ⟨s, t, q1, q2, q3, q4, q5⟩ := first_pair (fun i j => rightB a g a2 a3 a4 a5 a6 i j) a a g (Nat.le_refl a) (by omega) hall
  refine ⟨s, t, by omega, q2, q3, q4, q5, ?_⟩
  unfold planN
  rw [Int.toNat_natCast]
  exact pick_first _ a s t q1 q2 q3 q4 q5
end
theorem plan_ref (a0 a1 a2 a3 a4 a5 a6 : Int) : ∃ K, ∀ k, K ≤ k → peaveyref10_Plan.f k a0 a1 a2 a3 a4 a5 a6 = check_Plan.f a0 a1 a2 a3 a4 a5 a6 := by
  by_cases ht : testN a0 a1 a2 a3 a4 a5 a6 = 0
  · obtain ⟨s, t, q1, q2, q3, q4, q5, q6⟩ := plan_first ht
    obtain ⟨K, hK⟩ := comes_start ht q1 q2 q3 q4 q5
    refine ⟨K + 1, fun k hk => ?_⟩
    unfold peaveyref10_Plan.f check_Plan.f
    obtain ⟨k', hk'⟩ : ∃ j, k = j + 1 := ⟨k - 1, by omega⟩
    rw [hk', checkTest_ref k', ← hk', Option.bind_some, if_pos ht, if_pos ht, q6]
    exact hK k (by omega)
  · refine ⟨1, fun k hk => ?_⟩
    obtain ⟨k, rfl⟩ : ∃ j, k = j + 1 := ⟨k - 1, by omega⟩
    unfold peaveyref10_Plan.f check_Plan.f
    rw [checkTest_ref k, Option.bind_some, if_neg ht, if_neg ht]
    rfl
end Go.Proofs.Ytmgdidhhgdpobaa.Hand

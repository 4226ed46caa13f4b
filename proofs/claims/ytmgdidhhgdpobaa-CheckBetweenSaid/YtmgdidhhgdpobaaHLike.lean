/- The number of wrong logs that is most likely is neither too small nor too great, for a risk of at most 1 / 10. -/
import Derived.Test.YtmgdidhhgdpobaaHMore
namespace Go.Proofs.Ytmgdidhhgdpobaa.Hand
set_option linter.unusedVariables false
set_option linter.unusedSimpArgs false

/-- samples in which just so many are found, by the number of wrong logs -/
def JJ (a s f w : Nat) : Nat := binom w f * binom (a - w) (s - f)
theorem UU_JJ (a s f w : Nat) : UU a s f w = LL a s f w + JJ a s f w := rfl
theorem absorb1 (n k : Nat) (h : k ≤ n + 1) : binom n k * (n + 1) = binom (n + 1) k * (n + 1 - k) := by
  by_cases hk : k ≤ n
  · have h1 := binom_fact n k hk
    have h2 := binom_fact (n + 1) k h
    have f3 : fact (n + 1) = (n + 1) * fact n := rfl
    have f4 : fact (n + 1 - k) = (n + 1 - k) * fact (n - k) := by
      rw [show n + 1 - k = (n - k) + 1 by omega]; rfl
    have hp : 0 < fact k * fact (n - k) := Nat.mul_pos (fact_pos _) (fact_pos _)
    apply Nat.eq_of_mul_eq_mul_right hp
    rw [f4, f3, ← h1] at h2
    calc binom n k * (n + 1) * (fact k * fact (n - k)) = (n + 1) * (binom n k * (fact k * fact (n - k))) := by simp only [Nat.mul_comm, Nat.mul_left_comm, Nat.mul_assoc]
      _ = binom (n + 1) k * (fact k * ((n + 1 - k) * fact (n - k))) := h2.symm
      _ = _ := by simp only [Nat.mul_comm, Nat.mul_left_comm, Nat.mul_assoc]
  · obtain rfl : k = n + 1 := by omega
    rw [binom_gt n (n + 1) (by omega), Nat.sub_self]; simp
theorem JJ_step (a s f w : Nat) (hw : w < a) (hf : f ≤ s) (h1 : f ≤ w + 1) (h2 : s - f ≤ a - w) : JJ a s f (w + 1) * ((w + 1 - f) * (a - w)) = JJ a s f w * ((w + 1) * (a - w - (s - f))) := by
  obtain ⟨v, hv⟩ : ∃ v, a - w = v + 1 := ⟨a - w - 1, by omega⟩
  have e1 := absorb1 w f h1
  have e2 := absorb1 v (s - f) (by omega)
  unfold JJ
  rw [show a - (w + 1) = v by omega, hv]
  calc binom (w + 1) f * binom v (s - f) * ((w + 1 - f) * (v + 1)) = (binom (w + 1) f * (w + 1 - f)) * (binom v (s - f) * (v + 1)) := by simp only [Nat.mul_comm, Nat.mul_left_comm, Nat.mul_assoc]
    _ = (binom w f * (w + 1)) * (binom (v + 1) (s - f) * (v + 1 - (s - f))) := by rw [← e1, e2]
    _ = _ := by simp only [Nat.mul_comm, Nat.mul_left_comm, Nat.mul_assoc]
theorem JJ_pos (a s f w : Nat) : 0 < JJ a s f w ↔ f ≤ w ∧ s - f ≤ a - w := by
  unfold JJ
  constructor
  · intro h
    refine ⟨?_, ?_⟩
    · apply Decidable.byContradiction
      intro hc
      rw [binom_gt w f (by omega), Nat.zero_mul] at h; omega
    · apply Decidable.byContradiction
      intro hc
      rw [binom_gt (a - w) (s - f) (by omega), Nat.mul_zero] at h; omega
  · intro ⟨h1, h2⟩
    exact Nat.mul_pos (binom_pos _ _ h1) (binom_pos _ _ h2)
/-- where the greatest one comes first -/
theorem mode_at (a s f k : Nat) (hs : s ≤ a) (hf : f ≤ s) (hk : k ≤ a) (hmax : ∀ w, w ≤ a → JJ a s f w ≤ JJ a s f k) (hfirst : ∀ w, w < k → JJ a s f w < JJ a s f k) : k = (f * (a + 1) - 1) / s := by
  have hpos : 0 < JJ a s f k := Nat.lt_of_lt_of_le ((JJ_pos a s f f).2 ⟨Nat.le_refl _, by omega⟩) (hmax f (by omega))
  obtain ⟨p1, p2⟩ := (JJ_pos a s f k).1 hpos
  have up : f * (a + 1) ≤ (k + 1) * s := by
    by_cases hka : k = a
    · subst hka; rw [Nat.mul_comm]; exact Nat.mul_le_mul_left _ hf
    · have e := JJ_step a s f k (by omega) hf (by omega) p2
      have h1 : JJ a s f k * ((k + 1) * (a - k - (s - f))) ≤ JJ a s f k * ((k + 1 - f) * (a - k)) := by rw [← e]; exact Nat.mul_le_mul_right _ (hmax (k + 1) (by omega))
      have h2 := Nat.le_of_mul_le_mul_left h1 hpos
      obtain ⟨t, ht⟩ : ∃ t, s = f + t := ⟨s - f, by omega⟩
      obtain ⟨r, hr⟩ : ∃ r, a - k = t + r := ⟨a - k - t, by omega⟩
      obtain ⟨q, hq⟩ : ∃ q, k = f + q := ⟨k - f, by omega⟩
      have ha : a = f + q + (t + r) := by omega
      rw [show a - k - (s - f) = r by omega, hr, show k + 1 - f = q + 1 by omega, hq] at h2
      rw [ha, ht, hq]
      have x1 : (f + q + 1) * r = f * r + (q + 1) * r := by rw [show f + q + 1 = f + (q + 1) by omega, Nat.add_mul]
      have x2 : (q + 1) * (t + r) = (q + 1) * t + (q + 1) * r := Nat.mul_add _ _ _
      have x3 : f * (f + q + (t + r) + 1) = f * (f + q + 1) + f * t + f * r := by rw [show f + q + (t + r) + 1 = f + q + 1 + t + r by omega, Nat.mul_add, Nat.mul_add]
      have x4 : (f + q + 1) * (f + t) = f * (f + q + 1) + (f * t + (q + 1) * t) := by rw [Nat.mul_add, Nat.mul_comm (f + q + 1) f, show (f + q + 1) * t = f * t + (q + 1) * t by rw [show f + q + 1 = f + (q + 1) by omega, Nat.add_mul]]
      omega
  have dn : 0 < k → k * s < f * (a + 1) := by
    intro hk0
    obtain ⟨w, rfl⟩ : ∃ w, k = w + 1 := ⟨k - 1, by omega⟩
    have e := JJ_step a s f w (by omega) hf (by omega) (by omega)
    have h0 := hfirst w (by omega)
    have h1 : JJ a s f (w + 1) * ((w + 1 - f) * (a - w)) < JJ a s f (w + 1) * ((w + 1) * (a - w - (s - f))) := by
      rw [e]; exact Nat.mul_lt_mul_of_pos_right h0 (Nat.mul_pos (by omega) (by omega))
    have h2 := Nat.lt_of_mul_lt_mul_left h1
    obtain ⟨t, ht⟩ : ∃ t, s = f + t := ⟨s - f, by omega⟩
    obtain ⟨r, hr⟩ : ∃ r, a - w = t + r := ⟨a - w - t, by omega⟩
    obtain ⟨q, hq⟩ : ∃ q, w + 1 = f + q := ⟨w + 1 - f, by omega⟩
    rw [show a - w - (s - f) = r by omega, hr, show w + 1 - f = q by omega, hq] at h2
    have ha : a + 1 = f + q + (t + r) := by omega
    rw [ha, ht, hq]
    have x1 : (f + q) * r = f * r + q * r := Nat.add_mul _ _ _
    have x2 : q * (t + r) = q * t + q * r := Nat.mul_add _ _ _
    have x3 : f * (f + q + (t + r)) = f * (f + q) + f * t + f * r := by rw [show f + q + (t + r) = f + q + t + r by omega, Nat.mul_add, Nat.mul_add]
    have x4 : (f + q) * (f + t) = f * (f + q) + (f * t + q * t) := by rw [Nat.mul_add, Nat.mul_comm (f + q) f, Nat.add_mul]
    omega
  rcases Nat.eq_zero_or_pos s with h0 | h0
  · subst h0
    obtain rfl : f = 0 := by omega
    rw [Nat.div_zero]
    apply Decidable.byContradiction
    intro hc
    have := dn (by omega)
    omega
  · symm
    rcases Nat.eq_zero_or_pos k with hk0 | hk0
    · subst hk0
      apply Nat.div_eq_of_lt
      omega
    · have := dn hk0
      apply Nat.div_eq_of_lt_le
      · omega
      · omega

/-! ### the sums, in numbers -/
def nextL : Nat → List Nat → List Nat
  | p, [] => [p]
  | p, x :: l => (p + x) :: nextL x l
def rowL : Nat → List Nat
  | 0 => [1]
  | n + 1 => nextL 0 (rowL n)
theorem nextL_getD : ∀ (l : List Nat) (p i : Nat), (nextL p l).getD i 0 = (if i = 0 then p else l.getD (i - 1) 0) + l.getD i 0
  | [], p, 0 => by simp [nextL]
  | [], p, i + 1 => by simp [nextL]
  | x :: l, p, 0 => by simp [nextL]
  | x :: l, p, i + 1 => by
    have := nextL_getD l x i
    simp only [nextL, List.getD_cons_succ, this, if_neg (Nat.succ_ne_zero i), Nat.add_sub_cancel]
    cases i with
    | zero => simp
    | succ i => simp
theorem rowL_getD : ∀ (n i : Nat), (rowL n).getD i 0 = binom n i
  | 0, 0 => rfl
  | 0, i + 1 => by simp [rowL, binom]
  | n + 1, 0 => by rw [rowL, nextL_getD, rowL_getD n 0, binom_zero, binom_zero]; rfl
  | n + 1, i + 1 => by rw [rowL, nextL_getD, if_neg (Nat.succ_ne_zero i), Nat.add_sub_cancel, rowL_getD n i, rowL_getD n (i + 1), binom_succ]
/-- the row of v from its place s on back to its first one -/
def backL : Nat → List Nat → List Nat → List Nat
  | 0, l, acc => l.getD 0 0 :: acc
  | s + 1, [], acc => backL s [] (0 :: acc)
  | s + 1, x :: l, acc => backL s l (x :: acc)
theorem backL_getD : ∀ (s : Nat) (l acc : List Nat) (i : Nat), (backL s l acc).getD i 0 = if i ≤ s then l.getD (s - i) 0 else acc.getD (i - s - 1) 0
  | 0, l, acc, 0 => by simp [backL]
  | 0, l, acc, i + 1 => by simp [backL]
  | s + 1, [], acc, i => by
    rw [backL, backL_getD s [] (0 :: acc) i]
    by_cases h : i ≤ s
    · rw [if_pos h, if_pos (by omega)]; simp
    · rw [if_neg h]
      by_cases h2 : i = s + 1
      · subst h2; rw [if_pos (Nat.le_refl _), show s + 1 - s - 1 = 0 by omega]; simp
      · rw [if_neg (by omega), show i - s - 1 = (i - (s + 1) - 1) + 1 by omega, List.getD_cons_succ]
  | s + 1, x :: l, acc, i => by
    rw [backL, backL_getD s l (x :: acc) i]
    by_cases h : i ≤ s
    · rw [if_pos h, if_pos (by omega), show s + 1 - i = (s - i) + 1 by omega, List.getD_cons_succ]
    · rw [if_neg h]
      by_cases h2 : i = s + 1
      · subst h2; rw [if_pos (Nat.le_refl _), show s + 1 - s - 1 = 0 by omega, Nat.sub_self]; simp
      · rw [if_neg (by omega), show i - s - 1 = (i - (s + 1) - 1) + 1 by omega, List.getD_cons_succ]
def dot : Nat → List Nat → List Nat → Nat
  | n + 1, x :: l, y :: m => x * y + dot n l m
  | _, _, _ => 0
theorem dot_sum : ∀ (n : Nat) (l m : List Nat) (w v s c : Nat), (∀ i, l.getD i 0 = binom w (c + i)) → (∀ i, c + i ≤ s → m.getD i 0 = binom v (s - (c + i))) → c + n ≤ s + 1 → upN w v s c + dot n l m = upN w v s (c + n)
  | 0, l, m, w, v, s, c, h1, h2, h3 => by cases l <;> cases m <;> rfl
  | n + 1, [], m, w, v, s, c, h1, h2, h3 => by
    have hz : ∀ j, c ≤ j → binom w j = 0 := fun j hj => by
      have := h1 (j - c)
      rw [show c + (j - c) = j by omega] at this
      rw [← this]; simp
    have : ∀ d, upN w v s (c + d) = upN w v s c := fun d => by
      induction d with
      | zero => rfl
      | succ d ih => rw [← Nat.add_assoc, upN_succ, ih, hz (c + d) (by omega), Nat.zero_mul, Nat.add_zero]
    rw [this]; rfl
  | n + 1, x :: l, [], w, v, s, c, h1, h2, h3 => by
    have hz : ∀ j, c ≤ j → j ≤ s → binom v (s - j) = 0 := fun j hj hjs => by
      have := h2 (j - c) (by omega)
      rw [show c + (j - c) = j by omega] at this
      rw [← this]; simp
    have : ∀ d, c + d ≤ s + 1 → upN w v s (c + d) = upN w v s c := fun d => by
      induction d with
      | zero => intro _; rfl
      | succ d ih => intro hd; rw [← Nat.add_assoc, upN_succ, ih (by omega), hz (c + d) (by omega) (by omega), Nat.mul_zero, Nat.add_zero]
    rw [this (n + 1) h3]; rfl
  | n + 1, x :: l, y :: m, w, v, s, c, h1, h2, h3 => by
    have ih := dot_sum n l m w v s (c + 1) (fun i => by have := h1 (i + 1); rw [List.getD_cons_succ] at this; rw [this]; congr 1; omega)
      (fun i hi => by have := h2 (i + 1) (by omega); rw [List.getD_cons_succ] at this; rw [this]; congr 1; omega) (by omega)
    have e1 := h1 0
    have e2 := h2 0 (by omega)
    rw [List.getD_cons_zero] at e1 e2
    rw [Nat.add_zero] at e1 e2
    rw [dot, e1, e2, ← Nat.add_assoc, ← upN_succ, ih]
    congr 1; omega
theorem LL_dot (a s f k : Nat) (hf : f ≤ s + 1) : upN k (a - k) s f = dot f (rowL k) (backL s (rowL (a - k)) []) := by
  have := dot_sum f (rowL k) (backL s (rowL (a - k)) []) k (a - k) s 0 (fun i => by rw [rowL_getD, Nat.zero_add]) (fun i hi => by rw [backL_getD, if_pos (by omega), rowL_getD, Nat.zero_add]) (by omega)
  rw [Nat.zero_add] at this
  rw [← this, show upN k (a - k) s 0 = 0 from rfl, Nat.zero_add]
def tabL : List (List Nat) := [
  [1],
  [1, 1],
  [1, 2, 1],
  [1, 3, 3, 1],
  [1, 4, 6, 4, 1],
  [1, 5, 10, 10, 5, 1],
  [1, 6, 15, 20, 15, 6, 1],
  [1, 7, 21, 35, 35, 21, 7, 1],
  [1, 8, 28, 56, 70, 56, 28, 8, 1],
  [1, 9, 36, 84, 126, 126, 84, 36, 9, 1],
  [1, 10, 45, 120, 210, 252, 210, 120, 45, 10, 1],
  [1, 11, 55, 165, 330, 462, 462, 330, 165, 55, 11, 1],
  [1, 12, 66, 220, 495, 792, 924, 792, 495, 220, 66, 12, 1],
  [1, 13, 78, 286, 715, 1287, 1716, 1716, 1287, 715, 286, 78, 13, 1],
  [1, 14, 91, 364, 1001, 2002, 3003, 3432, 3003, 2002, 1001, 364, 91, 14, 1],
  [1, 15, 105, 455, 1365, 3003, 5005, 6435, 6435, 5005, 3003, 1365, 455, 105, 15, 1],
  [1, 16, 120, 560, 1820, 4368, 8008, 11440, 12870, 11440, 8008, 4368, 1820, 560, 120, 16, 1],
  [1, 17, 136, 680, 2380, 6188, 12376, 19448, 24310, 24310, 19448, 12376, 6188, 2380, 680, 136, 17, 1],
  [1, 18, 153, 816, 3060, 8568, 18564, 31824, 43758, 48620, 43758, 31824, 18564, 8568, 3060, 816, 153, 18, 1],
  [1, 19, 171, 969, 3876, 11628, 27132, 50388, 75582, 92378, 92378, 75582, 50388, 27132, 11628, 3876, 969, 171, 19, 1],
  [1, 20, 190, 1140, 4845, 15504, 38760, 77520, 125970, 167960, 184756, 167960, 125970, 77520, 38760, 15504, 4845, 1140, 190, 20, 1],
  [1, 21, 210, 1330, 5985, 20349, 54264, 116280, 203490, 293930, 352716, 352716, 293930, 203490, 116280, 54264, 20349, 5985, 1330, 210, 21, 1],
  [1, 22, 231, 1540, 7315, 26334, 74613, 170544, 319770, 497420, 646646, 705432, 646646, 497420, 319770, 170544, 74613, 26334, 7315, 1540, 231, 22, 1],
  [1, 23, 253, 1771, 8855, 33649, 100947, 245157, 490314, 817190, 1144066, 1352078, 1352078, 1144066, 817190, 490314, 245157, 100947, 33649, 8855, 1771, 253, 23, 1],
  [1, 24, 276, 2024, 10626, 42504, 134596, 346104, 735471, 1307504, 1961256, 2496144, 2704156, 2496144, 1961256, 1307504, 735471, 346104, 134596, 42504, 10626, 2024, 276, 24, 1],
  [1, 25, 300, 2300, 12650, 53130, 177100, 480700, 1081575, 2042975, 3268760, 4457400, 5200300, 5200300, 4457400, 3268760, 2042975, 1081575, 480700, 177100, 53130, 12650, 2300, 300, 25, 1],
  [1, 26, 325, 2600, 14950, 65780, 230230, 657800, 1562275, 3124550, 5311735, 7726160, 9657700, 10400600, 9657700, 7726160, 5311735, 3124550, 1562275, 657800, 230230, 65780, 14950, 2600, 325, 26, 1],
  [1, 27, 351, 2925, 17550, 80730, 296010, 888030, 2220075, 4686825, 8436285, 13037895, 17383860, 20058300, 20058300, 17383860, 13037895, 8436285, 4686825, 2220075, 888030, 296010, 80730, 17550, 2925, 351, 27, 1],
  [1, 28, 378, 3276, 20475, 98280, 376740, 1184040, 3108105, 6906900, 13123110, 21474180, 30421755, 37442160, 40116600, 37442160, 30421755, 21474180, 13123110, 6906900, 3108105, 1184040, 376740, 98280, 20475, 3276, 378, 28, 1],
  [1, 29, 406, 3654, 23751, 118755, 475020, 1560780, 4292145, 10015005, 20030010, 34597290, 51895935, 67863915, 77558760, 77558760, 67863915, 51895935, 34597290, 20030010, 10015005, 4292145, 1560780, 475020, 118755, 23751, 3654, 406, 29, 1],
  [1, 30, 435, 4060, 27405, 142506, 593775, 2035800, 5852925, 14307150, 30045015, 54627300, 86493225, 119759850, 145422675, 155117520, 145422675, 119759850, 86493225, 54627300, 30045015, 14307150, 5852925, 2035800, 593775, 142506, 27405, 4060, 435, 30, 1],
  [1, 31, 465, 4495, 31465, 169911, 736281, 2629575, 7888725, 20160075, 44352165, 84672315, 141120525, 206253075, 265182525, 300540195, 300540195, 265182525, 206253075, 141120525, 84672315, 44352165, 20160075, 7888725, 2629575, 736281, 169911, 31465, 4495, 465, 31, 1],
  [1, 32, 496, 4960, 35960, 201376, 906192, 3365856, 10518300, 28048800, 64512240, 129024480, 225792840, 347373600, 471435600, 565722720, 601080390, 565722720, 471435600, 347373600, 225792840, 129024480, 64512240, 28048800, 10518300, 3365856, 906192, 201376, 35960, 4960, 496, 32, 1],
  [1, 33, 528, 5456, 40920, 237336, 1107568, 4272048, 13884156, 38567100, 92561040, 193536720, 354817320, 573166440, 818809200, 1037158320, 1166803110, 1166803110, 1037158320, 818809200, 573166440, 354817320, 193536720, 92561040, 38567100, 13884156, 4272048, 1107568, 237336, 40920, 5456, 528, 33, 1],
  [1, 34, 561, 5984, 46376, 278256, 1344904, 5379616, 18156204, 52451256, 131128140, 286097760, 548354040, 927983760, 1391975640, 1855967520, 2203961430, 2333606220, 2203961430, 1855967520, 1391975640, 927983760, 548354040, 286097760, 131128140, 52451256, 18156204, 5379616, 1344904, 278256, 46376, 5984, 561, 34, 1],
  [1, 35, 595, 6545, 52360, 324632, 1623160, 6724520, 23535820, 70607460, 183579396, 417225900, 834451800, 1476337800, 2319959400, 3247943160, 4059928950, 4537567650, 4537567650, 4059928950, 3247943160, 2319959400, 1476337800, 834451800, 417225900, 183579396, 70607460, 23535820, 6724520, 1623160, 324632, 52360, 6545, 595, 35, 1],
  [1, 36, 630, 7140, 58905, 376992, 1947792, 8347680, 30260340, 94143280, 254186856, 600805296, 1251677700, 2310789600, 3796297200, 5567902560, 7307872110, 8597496600, 9075135300, 8597496600, 7307872110, 5567902560, 3796297200, 2310789600, 1251677700, 600805296, 254186856, 94143280, 30260340, 8347680, 1947792, 376992, 58905, 7140, 630, 36, 1],
  [1, 37, 666, 7770, 66045, 435897, 2324784, 10295472, 38608020, 124403620, 348330136, 854992152, 1852482996, 3562467300, 6107086800, 9364199760, 12875774670, 15905368710, 17672631900, 17672631900, 15905368710, 12875774670, 9364199760, 6107086800, 3562467300, 1852482996, 854992152, 348330136, 124403620, 38608020, 10295472, 2324784, 435897, 66045, 7770, 666, 37, 1],
  [1, 38, 703, 8436, 73815, 501942, 2760681, 12620256, 48903492, 163011640, 472733756, 1203322288, 2707475148, 5414950296, 9669554100, 15471286560, 22239974430, 28781143380, 33578000610, 35345263800, 33578000610, 28781143380, 22239974430, 15471286560, 9669554100, 5414950296, 2707475148, 1203322288, 472733756, 163011640, 48903492, 12620256, 2760681, 501942, 73815, 8436, 703, 38, 1],
  [1, 39, 741, 9139, 82251, 575757, 3262623, 15380937, 61523748, 211915132, 635745396, 1676056044, 3910797436, 8122425444, 15084504396, 25140840660, 37711260990, 51021117810, 62359143990, 68923264410, 68923264410, 62359143990, 51021117810, 37711260990, 25140840660, 15084504396, 8122425444, 3910797436, 1676056044, 635745396, 211915132, 61523748, 15380937, 3262623, 575757, 82251, 9139, 741, 39, 1],
  [1, 40, 780, 9880, 91390, 658008, 3838380, 18643560, 76904685, 273438880, 847660528, 2311801440, 5586853480, 12033222880, 23206929840, 40225345056, 62852101650, 88732378800, 113380261800, 131282408400, 137846528820, 131282408400, 113380261800, 88732378800, 62852101650, 40225345056, 23206929840, 12033222880, 5586853480, 2311801440, 847660528, 273438880, 76904685, 18643560, 3838380, 658008, 91390, 9880, 780, 40, 1],
  [1, 41, 820, 10660, 101270, 749398, 4496388, 22481940, 95548245, 350343565, 1121099408, 3159461968, 7898654920, 17620076360, 35240152720, 63432274896, 103077446706, 151584480450, 202112640600, 244662670200, 269128937220, 269128937220, 244662670200, 202112640600, 151584480450, 103077446706, 63432274896, 35240152720, 17620076360, 7898654920, 3159461968, 1121099408, 350343565, 95548245, 22481940, 4496388, 749398, 101270, 10660, 820, 41, 1],
  [1, 42, 861, 11480, 111930, 850668, 5245786, 26978328, 118030185, 445891810, 1471442973, 4280561376, 11058116888, 25518731280, 52860229080, 98672427616, 166509721602, 254661927156, 353697121050, 446775310800, 513791607420, 538257874440, 513791607420, 446775310800, 353697121050, 254661927156, 166509721602, 98672427616, 52860229080, 25518731280, 11058116888, 4280561376, 1471442973, 445891810, 118030185, 26978328, 5245786, 850668, 111930, 11480, 861, 42, 1],
  [1, 43, 903, 12341, 123410, 962598, 6096454, 32224114, 145008513, 563921995, 1917334783, 5752004349, 15338678264, 36576848168, 78378960360, 151532656696, 265182149218, 421171648758, 608359048206, 800472431850, 960566918220, 1052049481860, 1052049481860, 960566918220, 800472431850, 608359048206, 421171648758, 265182149218, 151532656696, 78378960360, 36576848168, 15338678264, 5752004349, 1917334783, 563921995, 145008513, 32224114, 6096454, 962598, 123410, 12341, 903, 43, 1],
  [1, 44, 946, 13244, 135751, 1086008, 7059052, 38320568, 177232627, 708930508, 2481256778, 7669339132, 21090682613, 51915526432, 114955808528, 229911617056, 416714805914, 686353797976, 1029530696964, 1408831480056, 1761039350070, 2012616400080, 2104098963720, 2012616400080, 1761039350070, 1408831480056, 1029530696964, 686353797976, 416714805914, 229911617056, 114955808528, 51915526432, 21090682613, 7669339132, 2481256778, 708930508, 177232627, 38320568, 7059052, 1086008, 135751, 13244, 946, 44, 1],
  [1, 45, 990, 14190, 148995, 1221759, 8145060, 45379620, 215553195, 886163135, 3190187286, 10150595910, 28760021745, 73006209045, 166871334960, 344867425584, 646626422970, 1103068603890, 1715884494940, 2438362177020, 3169870830126, 3773655750150, 4116715363800, 4116715363800, 3773655750150, 3169870830126, 2438362177020, 1715884494940, 1103068603890, 646626422970, 344867425584, 166871334960, 73006209045, 28760021745, 10150595910, 3190187286, 886163135, 215553195, 45379620, 8145060, 1221759, 148995, 14190, 990, 45, 1],
  [1, 46, 1035, 15180, 163185, 1370754, 9366819, 53524680, 260932815, 1101716330, 4076350421, 13340783196, 38910617655, 101766230790, 239877544005, 511738760544, 991493848554, 1749695026860, 2818953098830, 4154246671960, 5608233007146, 6943526580276, 7890371113950, 8233430727600, 7890371113950, 6943526580276, 5608233007146, 4154246671960, 2818953098830, 1749695026860, 991493848554, 511738760544, 239877544005, 101766230790, 38910617655, 13340783196, 4076350421, 1101716330, 260932815, 53524680, 9366819, 1370754, 163185, 15180, 1035, 46, 1],
  [1, 47, 1081, 16215, 178365, 1533939, 10737573, 62891499, 314457495, 1362649145, 5178066751, 17417133617, 52251400851, 140676848445, 341643774795, 751616304549, 1503232609098, 2741188875414, 4568648125690, 6973199770790, 9762479679106, 12551759587422, 14833897694226, 16123801841550, 16123801841550, 14833897694226, 12551759587422, 9762479679106, 6973199770790, 4568648125690, 2741188875414, 1503232609098, 751616304549, 341643774795, 140676848445, 52251400851, 17417133617, 5178066751, 1362649145, 314457495, 62891499, 10737573, 1533939, 178365, 16215, 1081, 47, 1],
  [1, 48, 1128, 17296, 194580, 1712304, 12271512, 73629072, 377348994, 1677106640, 6540715896, 22595200368, 69668534468, 192928249296, 482320623240, 1093260079344, 2254848913647, 4244421484512, 7309837001104, 11541847896480, 16735679449896, 22314239266528, 27385657281648, 30957699535776, 32247603683100, 30957699535776, 27385657281648, 22314239266528, 16735679449896, 11541847896480, 7309837001104, 4244421484512, 2254848913647, 1093260079344, 482320623240, 192928249296, 69668534468, 22595200368, 6540715896, 1677106640, 377348994, 73629072, 12271512, 1712304, 194580, 17296, 1128, 48, 1],
  [1, 49, 1176, 18424, 211876, 1906884, 13983816, 85900584, 450978066, 2054455634, 8217822536, 29135916264, 92263734836, 262596783764, 675248872536, 1575580702584, 3348108992991, 6499270398159, 11554258485616, 18851684897584, 28277527346376, 39049918716424, 49699896548176, 58343356817424, 63205303218876, 63205303218876, 58343356817424, 49699896548176, 39049918716424, 28277527346376, 18851684897584, 11554258485616, 6499270398159, 3348108992991, 1575580702584, 675248872536, 262596783764, 92263734836, 29135916264, 8217822536, 2054455634, 450978066, 85900584, 13983816, 1906884, 211876, 18424, 1176, 49, 1],
  [1, 50, 1225, 19600, 230300, 2118760, 15890700, 99884400, 536878650, 2505433700, 10272278170, 37353738800, 121399651100, 354860518600, 937845656300, 2250829575120, 4923689695575, 9847379391150, 18053528883775, 30405943383200, 47129212243960, 67327446062800, 88749815264600, 108043253365600, 121548660036300, 126410606437752, 121548660036300, 108043253365600, 88749815264600, 67327446062800, 47129212243960, 30405943383200, 18053528883775, 9847379391150, 4923689695575, 2250829575120, 937845656300, 354860518600, 121399651100, 37353738800, 10272278170, 2505433700, 536878650, 99884400, 15890700, 2118760, 230300, 19600, 1225, 50, 1]]
theorem tab_is : ∀ n, n < 51 → tabL.getD n [] = rowL n := by
  have h : (List.range 51).map rowL = tabL := by decide +kernel
  intro n hn
  rw [← h, List.getD_eq_getElem?_getD, List.getElem?_map, List.getElem?_range hn]
  rfl
def allTo (p : Nat → Bool) : Nat → Bool
  | 0 => true
  | n + 1 => p n && allTo p n
theorem allTo_is {p : Nat → Bool} : ∀ {n : Nat}, allTo p n = true → ∀ k, k < n → p k = true
  | 0, _, k, hk => by omega
  | n + 1, h, k, hk => by
    rw [allTo, Bool.and_eq_true] at h
    by_cases e : k = n
    · subst e; exact h.1
    · exact allTo_is h.2 k (by omega)
def chkN (c u l : Nat) : Bool := Nat.ble (c + 1) (10 * u) && Nat.ble (c + 1) (10 * (c - l))
def chkL (f s : Nat) (ra rk rv : List Nat) : Bool := chkN (ra.getD s 0) (dot (f + 1) rk (backL s rv [])) (dot f rk (backL s rv []))
def chk1 (a s f : Nat) : Bool := chkL f s (tabL.getD a []) (tabL.getD ((f * (a + 1) - 1) / s) []) (tabL.getD (a - (f * (a + 1) - 1) / s) [])
def chkA (a : Nat) : Bool := allTo (fun s => allTo (fun f => chk1 a s f) (s + 1)) (a + 1)
theorem chk_1 : chkA 1 = true := by decide +kernel
theorem chk_2 : chkA 2 = true := by decide +kernel
theorem chk_3 : chkA 3 = true := by decide +kernel
theorem chk_4 : chkA 4 = true := by decide +kernel
theorem chk_5 : chkA 5 = true := by decide +kernel
theorem chk_6 : chkA 6 = true := by decide +kernel
theorem chk_7 : chkA 7 = true := by decide +kernel
theorem chk_8 : chkA 8 = true := by decide +kernel
theorem chk_9 : chkA 9 = true := by decide +kernel
theorem chk_10 : chkA 10 = true := by decide +kernel
theorem chk_11 : chkA 11 = true := by decide +kernel
theorem chk_12 : chkA 12 = true := by decide +kernel
theorem chk_13 : chkA 13 = true := by decide +kernel
theorem chk_14 : chkA 14 = true := by decide +kernel
theorem chk_15 : chkA 15 = true := by decide +kernel
theorem chk_16 : chkA 16 = true := by decide +kernel
theorem chk_17 : chkA 17 = true := by decide +kernel
theorem chk_18 : chkA 18 = true := by decide +kernel
theorem chk_19 : chkA 19 = true := by decide +kernel
theorem chk_20 : chkA 20 = true := by decide +kernel
theorem chk_21 : chkA 21 = true := by decide +kernel
theorem chk_22 : chkA 22 = true := by decide +kernel
theorem chk_23 : chkA 23 = true := by decide +kernel
theorem chk_24 : chkA 24 = true := by decide +kernel
theorem chk_25 : chkA 25 = true := by decide +kernel
theorem chk_26 : chkA 26 = true := by decide +kernel
theorem chk_27 : chkA 27 = true := by decide +kernel
theorem chk_28 : chkA 28 = true := by decide +kernel
theorem chk_29 : chkA 29 = true := by decide +kernel
theorem chk_30 : chkA 30 = true := by decide +kernel
theorem chk_31 : chkA 31 = true := by decide +kernel
theorem chk_32 : chkA 32 = true := by decide +kernel
theorem chk_33 : chkA 33 = true := by decide +kernel
theorem chk_34 : chkA 34 = true := by decide +kernel
theorem chk_35 : chkA 35 = true := by decide +kernel
theorem chk_36 : chkA 36 = true := by decide +kernel
theorem chk_37 : chkA 37 = true := by decide +kernel
theorem chk_38 : chkA 38 = true := by decide +kernel
theorem chk_39 : chkA 39 = true := by decide +kernel
theorem chk_40 : chkA 40 = true := by decide +kernel
theorem chk_41 : chkA 41 = true := by decide +kernel
theorem chk_42 : chkA 42 = true := by decide +kernel
theorem chk_43 : chkA 43 = true := by decide +kernel
theorem chk_44 : chkA 44 = true := by decide +kernel
theorem chk_45 : chkA 45 = true := by decide +kernel
theorem chk_46 : chkA 46 = true := by decide +kernel
theorem chk_47 : chkA 47 = true := by decide +kernel
theorem chk_48 : chkA 48 = true := by decide +kernel
theorem chk_49 : chkA 49 = true := by decide +kernel
theorem chk_50 : chkA 50 = true := by decide +kernel
theorem chk_all : ∀ a, 1 ≤ a → a ≤ 50 → chkA a = true
  | 1, _, _ => chk_1
  | 2, _, _ => chk_2
  | 3, _, _ => chk_3
  | 4, _, _ => chk_4
  | 5, _, _ => chk_5
  | 6, _, _ => chk_6
  | 7, _, _ => chk_7
  | 8, _, _ => chk_8
  | 9, _, _ => chk_9
  | 10, _, _ => chk_10
  | 11, _, _ => chk_11
  | 12, _, _ => chk_12
  | 13, _, _ => chk_13
  | 14, _, _ => chk_14
  | 15, _, _ => chk_15
  | 16, _, _ => chk_16
  | 17, _, _ => chk_17
  | 18, _, _ => chk_18
  | 19, _, _ => chk_19
  | 20, _, _ => chk_20
  | 21, _, _ => chk_21
  | 22, _, _ => chk_22
  | 23, _, _ => chk_23
  | 24, _, _ => chk_24
  | 25, _, _ => chk_25
  | 26, _, _ => chk_26
  | 27, _, _ => chk_27
  | 28, _, _ => chk_28
  | 29, _, _ => chk_29
  | 30, _, _ => chk_30
  | 31, _, _ => chk_31
  | 32, _, _ => chk_32
  | 33, _, _ => chk_33
  | 34, _, _ => chk_34
  | 35, _, _ => chk_35
  | 36, _, _ => chk_36
  | 37, _, _ => chk_37
  | 38, _, _ => chk_38
  | 39, _, _ => chk_39
  | 40, _, _ => chk_40
  | 41, _, _ => chk_41
  | 42, _, _ => chk_42
  | 43, _, _ => chk_43
  | 44, _, _ => chk_44
  | 45, _, _ => chk_45
  | 46, _, _ => chk_46
  | 47, _, _ => chk_47
  | 48, _, _ => chk_48
  | 49, _, _ => chk_49
  | 50, _, _ => chk_50
  | 0, h, _ => by omega
  | n + 51, _, h => by omega
/-- the most likely number is neither too great nor too small -/
theorem mode_mid (a s f k : Nat) (h1 : 1 ≤ a) (h2 : a ≤ 50) (hs : s ≤ a) (hf : f ≤ s) (hk : k ≤ a) (hm : k = (f * (a + 1) - 1) / s) : binom a s < 10 * UU a s f k ∧ binom a s < 10 * (binom a s - LL a s f k) := by
  have h := allTo_is (allTo_is (chk_all a h1 h2) s (by omega)) f (by omega)
  have h' : chk1 a s f = true := h
  unfold chk1 chkL at h'
  rw [← hm, tab_is a (by omega), tab_is k (by omega), tab_is (a - k) (by omega), rowL_getD, ← LL_dot a s (f + 1) k (by omega), ← LL_dot a s f k (by omega)] at h'
  unfold chkN at h'
  rw [Bool.and_eq_true] at h'
  have g1 := Nat.le_of_ble_eq_true h'.1
  have g2 := Nat.le_of_ble_eq_true h'.2
  exact ⟨g1, g2⟩
end Go.Proofs.Ytmgdidhhgdpobaa.Hand

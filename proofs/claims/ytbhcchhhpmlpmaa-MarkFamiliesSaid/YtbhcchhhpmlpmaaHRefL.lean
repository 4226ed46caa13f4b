/- The reference's Family is the program's. -/
import Derived.Test.YtbhcchhhpmlpmaaHRefJ
namespace Go.Proofs.Ytbhcchhhpmlpmaa.Hand
set_option linter.unusedVariables false
set_option linter.unusedSimpArgs false
open Go.RowKit Go.Proofs.YtbhcchhhpmlpmaaW.PrintWords Go.Proofs.YtbhcchhhpmlpmaaW.PrintLast Go.Proofs.YtbhcchhhpmlpmaaW.PrintMore Go.Proofs.Ytbhcchhhpmlpmaa.PrA Go.Proofs.Ytbhcchhhpmlpmaa.PrR Go.Proofs.Ytbhcchhhpmlpmaa.PrT Go.Proofs.Ytbhcchhhpmlpmaa.PrV Go.Proofs.Ytbhcchhhpmlpmaa.PrW Go.Proofs.Ytbhcchhhpmlpmaa.PrY Go.Proofs.Ytbhcchhhpmlpmaa.PrZ

theorem set_lt {n s : Nat} (hn : n ≤ 12) (hs : s < 2 ^ n) : s < 4096 := Nat.lt_of_lt_of_le hs (two_pow_le hn)
theorem bit_lt {n s j : Nat} (hs : s < 2 ^ n) (hj : s.testBit j = true) : j < n := by
  rcases Nat.lt_or_ge j n with h | h
  · exact h
  · rw [Nat.testBit_lt_two_pow (Nat.lt_of_lt_of_le hs (Nat.pow_le_pow_right (by decide) h))] at hj; cases hj
theorem set_mem {n s j : Nat} (hs : s < 2 ^ n) : j ∈ setFrom s n 0 ↔ s.testBit j = true := by
  rw [setFrom_mem]
  exact ⟨fun h => h.2.2, fun h => ⟨by omega, by have := bit_lt hs h; omega, h⟩⟩
theorem ints_append (a b : List Nat) : ints (a ++ b) = ints a ++ ints b := by simp [ints]
theorem bits_loop {n s : Nat} (hn : n ≤ 12) (hs : s < 2 ^ n) : ∀ (f i : Nat) (acc : List Int), i + f = n → acc.length ≤ i → ∀ k, f < k → peaveyref01_Bits.l0 k (s : Int) acc (i : Int) = some (acc ++ ints (setFrom s f i)) := by
  have h4 := set_lt hn hs
  have key : ∀ i, s >>> i = 0 → ∀ f, setFrom s f i = [] := by
    intro i h f
    refine setFrom_none fun j hj => ?_
    rw [Nat.shiftRight_eq_div_pow] at h
    have : s < 2 ^ i := by
      rcases Nat.lt_or_ge s (2 ^ i) with g | g
      · exact g
      · have := Nat.div_pos g (Nat.two_pow_pos i); omega
    exact Nat.testBit_lt_two_pow (Nat.lt_of_lt_of_le this (Nat.pow_le_pow_right (by decide) hj))
  intro f
  induction f with
  | zero =>
    intro i acc hi ha k hk
    obtain ⟨k, rfl⟩ : ∃ j, k = j + 1 := ⟨k - 1, by omega⟩
    have : s >>> i = 0 := by rw [Nat.shiftRight_eq_div_pow, show i = n by omega]; exact Nat.div_eq_of_lt hs
    rw [peaveyref01_Bits.l0, if_pos (by omega), shr_nat s i (by omega), this, if_neg (by decide)]
    simp [setFrom, ints]
  | succ f ih =>
    intro i acc hi ha k hk
    obtain ⟨k, rfl⟩ : ∃ j, k = j + 1 := ⟨k - 1, by omega⟩
    have hb := bit_one s i (by omega) (by omega)
    rw [shr_nat s i (by omega)] at hb
    rw [peaveyref01_Bits.l0, if_pos (by omega), shr_nat s i (by omega), hb, wsucc i (by omega)]
    by_cases hz : s >>> i = 0
    · rw [if_neg (by omega), key i hz]; simp [ints]
    · rw [if_pos (Int.natCast_pos.2 (Nat.pos_of_ne_zero hz)), setFrom]
      cases ht : s.testBit i
      · rw [if_neg (by simp), ih (i + 1) acc (by omega) (by omega) k (by omega)]; rfl
      · rw [if_pos (by simp), if_pos (by omega), ih (i + 1) (acc ++ [(i : Int)]) (by omega) (by simp; omega) k (by omega), if_pos rfl, List.append_assoc]; rfl
theorem refBits_is {n s : Nat} (hn : n ≤ 12) (hs : s < 2 ^ n) {k : Nat} (hk : 14 ≤ k) : peaveyref01_Bits.f k (s : Int) = some (ints (setFrom s n 0)) :=
  bits_loop hn hs n 0 [] (by omega) (Nat.le_refl 0) k (by omega)
theorem refCount_is {n s : Nat} (hn : n ≤ 12) (hs : s < 2 ^ n) {k : Nat} (hk : 14 ≤ k) : peaveyref01_count.f k (s : Int) = some ((setFrom s n 0).length : Int) := by
  unfold peaveyref01_count.f
  rw [refBits_is hn hs hk, Option.bind_some, ints_length]
/-- does a set come before another one, in bits? -/
def lowF (s b : Nat) : Nat → Nat → Bool
  | 0, _ => false
  | f + 1, i => if s.testBit i = b.testBit i then lowF s b f (i + 1) else s.testBit i
theorem lower_loop {s b : Nat} (hs : s < 4096) (hb : b < 4096) : ∀ (f i : Nat), i + f = 12 → ∀ k, f < k → peaveyref01_lower.l0 k (s : Int) (b : Int) (i : Int) = some (lowF s b f i) := by
  intro f
  induction f with
  | zero =>
    intro i hi k hk
    obtain ⟨k, rfl⟩ : ∃ j, k = j + 1 := ⟨k - 1, by omega⟩
    rw [peaveyref01_lower.l0, if_neg (by omega)]; rfl
  | succ f ih =>
    intro i hi k hk
    obtain ⟨k, rfl⟩ : ∃ j, k = j + 1 := ⟨k - 1, by omega⟩
    rw [peaveyref01_lower.l0, if_pos (by omega), if_pos (by omega), bit_one s i (by omega) (by omega), bit_one b i (by omega) (by omega), wsucc i (by omega), ih (i + 1) (by omega) k (by omega), lowF]
    cases s.testBit i <;> cases b.testBit i <;> rfl
theorem lowF_iff {s b : Nat} : ∀ {f i : Nat}, lowF s b f i = true ↔ ∃ j, i ≤ j ∧ j < i + f ∧ s.testBit j = true ∧ b.testBit j = false ∧ ∀ t, i ≤ t → t < j → s.testBit t = b.testBit t
  | 0, i => by simp [lowF]; intro j h1 h2; omega
  | f + 1, i => by
    rw [lowF]
    by_cases e : s.testBit i = b.testBit i
    · rw [if_pos e, lowF_iff]
      constructor
      · rintro ⟨j, h1, h2, h3, h4, h5⟩
        exact ⟨j, by omega, by omega, h3, h4, fun t g1 g2 => by
          by_cases et : t = i
          · rw [et]; exact e
          · exact h5 t (by omega) g2⟩
      · rintro ⟨j, h1, h2, h3, h4, h5⟩
        by_cases ej : j = i
        · subst ej; rw [h3, h4] at e; cases e
        · exact ⟨j, by omega, by omega, h3, h4, fun t g1 g2 => h5 t (by omega) g2⟩
    · rw [if_neg e]
      constructor
      · intro h
        exact ⟨i, Nat.le_refl i, by omega, h, by cases hb : b.testBit i; · rfl
                                                 · rw [h, hb] at e; exact absurd rfl e, fun t g1 g2 => by omega⟩
      · rintro ⟨j, h1, h2, h3, h4, h5⟩
        by_cases ej : j = i
        · subst ej; exact h3
        · exact absurd (h5 i (Nat.le_refl i) (by omega)) e
theorem low_lo {n s b : Nat} (hn : n ≤ 12) (hs : s < 2 ^ n) (hb : b < 2 ^ n) : lowF s b 12 0 = true ↔ Lo (setFrom s n 0) (setFrom b n 0) := by
  rw [lowF_iff]
  unfold Lo
  constructor
  · rintro ⟨j, _, _, h3, h4, h5⟩
    exact ⟨j, (set_mem hs).2 h3, (fun h => by rw [set_mem hb, h4] at h; cases h), fun i hi => by rw [set_mem hs, set_mem hb, h5 i (by omega) hi]⟩
  · rintro ⟨j, h1, h2, h3⟩
    rw [set_mem hs] at h1
    rw [set_mem hb] at h2
    have hj := bit_lt hs h1
    exact ⟨j, by omega, by omega, h1, by simpa using h2, fun t _ ht => by
      have := h3 t ht
      rw [set_mem hs, set_mem hb] at this
      exact Bool.eq_iff_iff.2 this⟩
theorem lo_trans {a b c : List Nat} (h1 : Lo a b) (h2 : Lo b c) : Lo a c := by
  obtain ⟨j, a1, a2, a3⟩ := h1
  obtain ⟨k, b1, b2, b3⟩ := h2
  rcases Nat.lt_trichotomy j k with g | g | g
  · exact ⟨j, a1, fun h => a2 ((b3 j g).2 h), fun i hi => (a3 i hi).trans (b3 i (by omega))⟩
  · subst g; exact absurd b1 a2
  · exact ⟨k, (a3 k g).2 b1, b2, fun i hi => (a3 i (by omega)).trans (b3 i hi)⟩
theorem low_total {s b : Nat} (hs : s < 4096) (hb : b < 4096) (hne : s ≠ b) : lowF s b 12 0 = true ∨ lowF b s 12 0 = true := by
  have key : ∀ n, (∀ t, t < n → s.testBit t = b.testBit t) ∨ ∃ j, j < n ∧ s.testBit j ≠ b.testBit j ∧ ∀ t, t < j → s.testBit t = b.testBit t := by
    intro n
    induction n with
    | zero => exact .inl fun t ht => by omega
    | succ n ih =>
      rcases ih with h | ⟨j, h1, h2, h3⟩
      · by_cases e : s.testBit n = b.testBit n
        · exact .inl fun t ht => by
            by_cases et : t = n
            · rw [et]; exact e
            · exact h t (by omega)
        · exact .inr ⟨n, by omega, e, h⟩
      · exact .inr ⟨j, by omega, h2, h3⟩
  rcases key 12 with h | ⟨j, h1, h2, h3⟩
  · exfalso
    refine hne (Nat.eq_of_testBit_eq fun i => ?_)
    by_cases hi : i < 12
    · exact h i hi
    · rw [Nat.testBit_lt_two_pow (Nat.lt_of_lt_of_le (show s < 2 ^ 12 from hs) (Nat.pow_le_pow_right (by decide) (by omega))), Nat.testBit_lt_two_pow (Nat.lt_of_lt_of_le (show b < 2 ^ 12 from hb) (Nat.pow_le_pow_right (by decide) (by omega)))]
  · cases hsj : s.testBit j
    · right
      exact lowF_iff.2 ⟨j, by omega, by omega, by cases hbj : b.testBit j; · rw [hsj, hbj] at h2; exact absurd rfl h2
                                                  · rfl, hsj, fun t _ ht => (h3 t ht).symm⟩
    · left
      exact lowF_iff.2 ⟨j, by omega, by omega, hsj, by cases hbj : b.testBit j; · rfl
                                                       · rw [hsj, hbj] at h2; exact absurd rfl h2, fun t _ ht => h3 t ht⟩
theorem shl_pow {n : Nat} (hn : n ≤ 12) : shl .i64 1 (n : Int) = ((2 ^ n : Nat) : Int) := by
  have : n = 0 ∨ n = 1 ∨ n = 2 ∨ n = 3 ∨ n = 4 ∨ n = 5 ∨ n = 6 ∨ n = 7 ∨ n = 8 ∨ n = 9 ∨ n = 10 ∨ n = 11 ∨ n = 12 := by omega
  rcases this with rfl | rfl | rfl | rfl | rfl | rfl | rfl | rfl | rfl | rfl | rfl | rfl | rfl <;> decide +kernel

/-- is a set good: no index of it clashes with one of it? -/
def goodF (c : Nat → Nat) (s : Nat) : Nat → Nat → Bool
  | 0, _ => true
  | f + 1, i => (!s.testBit i || (c i &&& s == 0)) && goodF c s f (i + 1)
theorem goodF_iff {c : Nat → Nat} {s : Nat} : ∀ {f i : Nat}, goodF c s f i = true ↔ ∀ j, i ≤ j → j < i + f → s.testBit j = true → c j &&& s = 0
  | 0, i => by simp [goodF]; intro j h1 h2; omega
  | f + 1, i => by
    rw [goodF, Bool.and_eq_true, goodF_iff]
    constructor
    · rintro ⟨h1, h2⟩ j g1 g2 g3
      by_cases e : j = i
      · subst e; rw [g3] at h1; simpa using h1
      · exact h2 j (by omega) (by omega) g3
    · intro h
      refine ⟨?_, fun j g1 g2 g3 => h j (by omega) (by omega) g3⟩
      cases hb : s.testBit i
      · rfl
      · have := h i (Nat.le_refl i) (by omega) hb
        simp [this]
/-- the better one of a set and the best so far -/
def updS (n : Nat) (c : Nat → Nat) (b s : Nat) : Nat :=
  if goodF c s n 0 && (decide ((setFrom s n 0).length > (setFrom b n 0).length) || (decide ((setFrom s n 0).length = (setFrom b n 0).length) && lowF s b 12 0)) then s else b
theorem fam_inner {marks cl : List Int} {c : Nat → Nat} (hn : marks.length ≤ 12) (hcl : cl.length = marks.length) (hc : ∀ i, i < marks.length → rd cl (i : Int) = (c i : Int) ∧ c i < 4096) {s : Nat} (hs : s < 2 ^ marks.length) (b : Int) (k : Nat) :
    ∀ (f i : Nat) (g : Bool), i + f = marks.length → peaveyref01_Family.l1 (f + (k + 1)) marks cl b (s : Int) g (i : Int) = peaveyref01_Family.l1 (k + 1) marks cl b (s : Int) (g && goodF c s f i) (marks.length : Int) := by
  have h4 := set_lt hn hs
  intro f
  induction f with
  | zero => intro i g hi; rw [Nat.zero_add, show i = marks.length by omega, goodF, Bool.and_true]
  | succ f ih =>
    intro i g hi
    have hil : i < marks.length := by omega
    rw [show f + 1 + (k + 1) = (f + (k + 1)) + 1 by omega, peaveyref01_Family.l1, if_pos (by omega), wsucc i (by omega)]
    cases g
    · rw [if_neg (by simp), ih (i + 1) false (by omega), Bool.false_and, Bool.false_and]
    · rw [if_pos rfl, if_pos (by omega), bit_one s i (by omega) (by omega), goodF]
      cases hb : s.testBit i
      · rw [if_pos (by simp), ih (i + 1) true (by omega)]; rfl
      · rw [if_neg (by simp), if_pos (by omega), (hc i hil).1, and_nat (c i) s (by have := (hc i hil).2; omega) (by omega), ih (i + 1) _ (by omega)]
        congr 1
        rw [Bool.true_and, Bool.not_true, Bool.false_or]
        congr 1
        rw [Bool.eq_iff_iff, beq_iff_eq, beq_iff_eq]
        omega
theorem fam_step {marks cl : List Int} {c : Nat → Nat} (hn : marks.length ≤ 12) (hcl : cl.length = marks.length) (hc : ∀ i, i < marks.length → rd cl (i : Int) = (c i : Int) ∧ c i < 4096) {s b : Nat} (hs : s < 2 ^ marks.length) (hb : b < 2 ^ marks.length) {k : Nat} (hk : 20 ≤ k) :
    peaveyref01_Family.l0 (marks.length + (k + 1) + 1) marks cl (b : Int) (s : Int) = peaveyref01_Family.l0 k marks cl (updS marks.length c b s : Int) ((s + 1 : Nat) : Int) := by
  have h4 := set_lt hn hs
  have hi := fam_inner hn hcl hc hs (b : Int) k marks.length 0 true (by omega)
  rw [Bool.true_and] at hi
  have hcs := refCount_is (k := k) hn hs (by omega)
  have hcb := refCount_is (k := k) hn hb (by omega)
  rw [peaveyref01_Family.l0, shl_pow hn, if_pos (by omega)]
  refine hi.trans ?_
  rw [peaveyref01_Family.l1, if_neg (by omega), wsucc s (by omega), updS]
  cases hg : goodF c s marks.length 0
  · rw [if_neg (by simp), Bool.false_and, if_neg (by simp)]
  · rw [if_pos rfl, hcs, hcb, Option.bind_some, Option.bind_some, Option.bind_some, Option.bind_some, Bool.true_and]
    by_cases h1 : (setFrom s marks.length 0).length > (setFrom b marks.length 0).length
    · rw [if_pos (by omega), decide_eq_true h1, Bool.true_or, if_pos rfl]
    · rw [if_neg (by omega), decide_eq_false h1, Bool.false_or]
      by_cases h2 : (setFrom s marks.length 0).length = (setFrom b marks.length 0).length
      · rw [if_pos (by omega), show peaveyref01_lower.f k (s : Int) (b : Int) = some (lowF s b 12 0) from lower_loop h4 (set_lt hn hb) 12 0 (by omega) k (by omega), Option.bind_some, decide_eq_true h2, Bool.true_and]
        cases lowF s b 12 0 <;> rfl
      · rw [if_neg (by omega), decide_eq_false h2, Bool.false_and, if_neg (by simp)]
end Go.Proofs.Ytbhcchhhpmlpmaa.Hand

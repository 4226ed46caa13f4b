/- Sets of indexes as numbers, and as lists. -/
import Derived.Test.YtbhcchhhpmlpmaaMD
import Derived.Test.YtbhcchhhpmlpmaaHFamN
import Derived.Test.YtbhcchhhpmlpmaaPrY1
namespace Go.Proofs.Ytbhcchhhpmlpmaa.Hand
set_option linter.unusedVariables false
set_option linter.unusedSimpArgs false
open Go.RowKit Go.Proofs.YtbhcchhhpmlpmaaW.PrintWords Go.Proofs.YtbhcchhhpmlpmaaW.PrintLast Go.Proofs.YtbhcchhhpmlpmaaW.PrintMore Go.Proofs.Ytbhcchhhpmlpmaa.PrA Go.Proofs.Ytbhcchhhpmlpmaa.PrR Go.Proofs.Ytbhcchhhpmlpmaa.PrY

theorem two_pow_le {k : Nat} (h : k ≤ 12) : 2 ^ k ≤ 4096 := Nat.pow_le_pow_right (n := 2) (by decide) h
theorem and_nat (a b : Nat) (ha : a < 65536) (hb : b < 65536) : Go.bits .and .i64 (a : Int) (b : Int) = ((a &&& b : Nat) : Int) := by
  show IntKind.i64.wrap ((BitVec.ofInt 64 (a : Int) &&& BitVec.ofInt 64 (b : Int)).toNat : Int) = _
  have e1 : (BitVec.ofInt 64 (a : Int)).toNat = a := by rw [BitVec.toNat_ofInt]; omega
  have e2 : (BitVec.ofInt 64 (b : Int)).toNat = b := by rw [BitVec.toNat_ofInt]; omega
  rw [BitVec.toNat_and, e1, e2]
  have : a &&& b ≤ a := Nat.and_le_left
  exact IntWalk.i64_in _ (by omega)
theorem shr_nat (a i : Nat) (hi : i ≤ 60) : shr .i64 (a : Int) (i : Int) = ((a >>> i : Nat) : Int) := by
  unfold shr
  rw [Nat.shiftRight_eq_div_pow, Int.toNat_natCast, Nat.min_eq_left (by show i ≤ 64; omega)]
  simp
theorem bit_one (a i : Nat) (ha : a < 65536) (hi : i ≤ 60) : Go.bits .and .i64 (shr .i64 (a : Int) (i : Int)) 1 = if a.testBit i then 1 else 0 := by
  rw [shr_nat a i hi, show (1 : Int) = ((1 : Nat) : Int) from rfl, and_nat _ _ (Nat.lt_of_le_of_lt (Nat.shiftRight_le _ _) ha) (by omega), Nat.and_one_is_mod]
  have : a.testBit i = decide (a >>> i % 2 = 1) := by rw [Nat.testBit, Nat.and_comm, Nat.and_one_is_mod]; rcases Nat.mod_two_eq_zero_or_one (a >>> i) with h | h <;> simp [h]
  rw [this]
  rcases Nat.mod_two_eq_zero_or_one (a >>> i) with h | h <;> simp [h]

/-- the indexes of a set, from one on -/
def setFrom (s : Nat) : Nat → Nat → List Nat
  | 0, _ => []
  | f + 1, i => (if s.testBit i then [i] else []) ++ setFrom s f (i + 1)
theorem setFrom_none {s : Nat} : ∀ {f i : Nat}, (∀ j, i ≤ j → s.testBit j = false) → setFrom s f i = []
  | 0, _, _ => rfl
  | f + 1, i, h => by rw [setFrom, h i (Nat.le_refl i), setFrom_none fun j hj => h j (by omega)]; rfl
theorem setFrom_incr {n s : Nat} : ∀ {f i : Nat}, f = n - i → Incr n i (setFrom s f i)
  | 0, _, _ => trivial
  | f + 1, i, h => by
    have ih := setFrom_incr (n := n) (s := s) (f := f) (i := i + 1) (by omega)
    rw [setFrom]
    cases s.testBit i
    · exact incr_lower (by omega) ih
    · exact ⟨Nat.le_refl i, by omega, ih⟩
theorem setFrom_mem {s : Nat} : ∀ {f i j : Nat}, j ∈ setFrom s f i ↔ i ≤ j ∧ j < i + f ∧ s.testBit j = true
  | 0, i, j => by simp [setFrom]; omega
  | f + 1, i, j => by
    rw [setFrom, List.mem_append, setFrom_mem]
    constructor
    · rintro (h | h)
      · split at h
        · rename_i hb
          have := List.mem_singleton.1 h
          subst this
          exact ⟨Nat.le_refl _, by omega, hb⟩
        · cases h
      · exact ⟨by omega, by omega, h.2.2⟩
    · rintro ⟨h1, h2, h3⟩
      by_cases e : j = i
      · subst e; left; rw [if_pos h3]; exact List.mem_singleton.2 rfl
      · exact .inr ⟨by omega, by omega, h3⟩
theorem setFrom_of {n s : Nat} : ∀ {f i : Nat} {u : List Nat}, f = n - i → Incr n i u → (∀ j, i ≤ j → j < n → (s.testBit j = true ↔ j ∈ u)) → setFrom s f i = u
  | 0, i, u, hf, hu, _ => by
    match u, hu with
    | [], _ => rfl
    | x :: t, ⟨h1, h2, _⟩ => omega
  | f + 1, i, u, hf, hu, h => by
    rw [setFrom]
    rcases incr_split hu with hu' | ⟨t, rfl, ht⟩
    · have hn : s.testBit i = false := by
        cases hb : s.testBit i
        · rfl
        · have := (h i (Nat.le_refl i) (by omega)).1 hb
          have := incr_ge hu' i this
          omega
      rw [hn, setFrom_of (n := n) (by omega) hu' fun j h1 h2 => h j (by omega) h2]; rfl
    · have hb := (h i (Nat.le_refl i) (by omega)).2 List.mem_cons_self
      rw [hb, setFrom_of (n := n) (u := t) (by omega) ht fun j h1 h2 => by
        rw [h j (by omega) h2, List.mem_cons]
        exact ⟨fun g => g.resolve_left (by omega), .inr⟩]; rfl
theorem set_lt {n s : Nat} (hn : n ≤ 12) (hs : s < 2 ^ n) : s < 4096 := Nat.lt_of_lt_of_le hs (two_pow_le hn)
theorem bit_lt {n s j : Nat} (hs : s < 2 ^ n) (hj : s.testBit j = true) : j < n := by
  rcases Nat.lt_or_ge j n with h | h
  · exact h
  · rw [Nat.testBit_lt_two_pow (Nat.lt_of_lt_of_le hs (Nat.pow_le_pow_right (by decide) h))] at hj; cases hj
theorem set_mem {n s j : Nat} (hs : s < 2 ^ n) : j ∈ setFrom s n 0 ↔ s.testBit j = true := by
  rw [setFrom_mem]
  exact ⟨fun h => h.2.2, fun h => ⟨by omega, by have := bit_lt hs h; omega, h⟩⟩
theorem ints_append (a b : List Nat) : ints (a ++ b) = ints a ++ ints b := by simp [ints]
theorem bits_loop {n s : Nat} (hn : n ≤ 12) (hs : s < 2 ^ n) : ∀ (f i : Nat) (acc : List Int), i + f = n → acc.length ≤ i → ∀ k, f < k → peaveyref01_Bits.l0 k (s : Int) acc (i : Int) = some (acc ++ ints (setFrom s f i)) := by
  have h4 := set_lt hn hs
  have key : ∀ i, s >>> i = 0 → ∀ f, setFrom s f i = [] := by
    intro i h f
    refine setFrom_none fun j hj => ?_
    rw [Nat.shiftRight_eq_div_pow] at h
    have : s < 2 ^ i := by
      rcases Nat.lt_or_ge s (2 ^ i) with g | g
      · exact g
      · have := Nat.div_pos g (Nat.two_pow_pos i); omega
    exact Nat.testBit_lt_two_pow (Nat.lt_of_lt_of_le this (Nat.pow_le_pow_right (by decide) hj))
  intro f
  induction f with
  | zero =>
    intro i acc hi ha k hk
    obtain ⟨k, rfl⟩ : ∃ j, k = j + 1 := ⟨k - 1, by omega⟩
    have : s >>> i = 0 := by rw [Nat.shiftRight_eq_div_pow, show i = n by omega]; exact Nat.div_eq_of_lt hs
    rw [peaveyref01_Bits.l0, if_pos (by omega), shr_nat s i (by omega), this, if_neg (by decide)]
    simp [setFrom, ints]
  | succ f ih =>
    intro i acc hi ha k hk
    obtain ⟨k, rfl⟩ : ∃ j, k = j + 1 := ⟨k - 1, by omega⟩
    have hb := bit_one s i (by omega) (by omega)
    rw [shr_nat s i (by omega)] at hb
    rw [peaveyref01_Bits.l0, if_pos (by omega), shr_nat s i (by omega), hb, wsucc i (by omega)]
    by_cases hz : s >>> i = 0
    · rw [if_neg (by omega), key i hz]; simp [ints]
    · rw [if_pos (Int.natCast_pos.2 (Nat.pos_of_ne_zero hz)), setFrom]
      cases ht : s.testBit i
      · rw [if_neg (by simp), ih (i + 1) acc (by omega) (by omega) k (by omega)]; rfl
      · rw [if_pos (by simp), if_pos (by omega), ih (i + 1) (acc ++ [(i : Int)]) (by omega) (by simp; omega) k (by omega), if_pos rfl, List.append_assoc]; rfl
theorem refBits_is {n s : Nat} (hn : n ≤ 12) (hs : s < 2 ^ n) {k : Nat} (hk : 14 ≤ k) : peaveyref01_Bits.f k (s : Int) = some (ints (setFrom s n 0)) :=
  bits_loop hn hs n 0 [] (by omega) (Nat.le_refl 0) k (by omega)
theorem refCount_is {n s : Nat} (hn : n ≤ 12) (hs : s < 2 ^ n) {k : Nat} (hk : 14 ≤ k) : peaveyref01_count.f k (s : Int) = some ((setFrom s n 0).length : Int) := by
  unfold peaveyref01_count.f
  rw [refBits_is hn hs hk, Option.bind_some, ints_length]
end Go.Proofs.Ytbhcchhhpmlpmaa.Hand

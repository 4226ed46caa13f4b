/- The reference's Family, in plain numbers: the first one of the greatest families. -/
import Derived.Test.YtbhcchhhpmlpmaaHRefI
import Derived.Test.YtbhcchhhpmlpmaaHFamN
import Derived.Test.YtbhcchhhpmlpmaaPrZ1
namespace Go.Proofs.Ytbhcchhhpmlpmaa.Hand
set_option linter.unusedVariables false
set_option linter.unusedSimpArgs false
open Go.RowKit Go.Proofs.YtbhcchhhpmlpmaaW.PrintWords Go.Proofs.YtbhcchhhpmlpmaaW.PrintLast Go.Proofs.YtbhcchhhpmlpmaaW.PrintMore Go.Proofs.Ytbhcchhhpmlpmaa.PrA Go.Proofs.Ytbhcchhhpmlpmaa.PrR Go.Proofs.Ytbhcchhhpmlpmaa.PrT Go.Proofs.Ytbhcchhhpmlpmaa.PrV Go.Proofs.Ytbhcchhhpmlpmaa.PrW Go.Proofs.Ytbhcchhhpmlpmaa.PrY Go.Proofs.Ytbhcchhhpmlpmaa.PrZ

theorem and_nat (a b : Nat) (ha : a < 65536) (hb : b < 65536) : Go.bits .and .i64 (a : Int) (b : Int) = ((a &&& b : Nat) : Int) := by
  show IntKind.i64.wrap ((BitVec.ofInt 64 (a : Int) &&& BitVec.ofInt 64 (b : Int)).toNat : Int) = _
  have e1 : (BitVec.ofInt 64 (a : Int)).toNat = a := by rw [BitVec.toNat_ofInt]; omega
  have e2 : (BitVec.ofInt 64 (b : Int)).toNat = b := by rw [BitVec.toNat_ofInt]; omega
  rw [BitVec.toNat_and, e1, e2]
  have : a &&& b ≤ a := Nat.and_le_left
  exact IntWalk.i64_in _ (by omega)
theorem shr_nat (a i : Nat) (hi : i ≤ 60) : shr .i64 (a : Int) (i : Int) = ((a >>> i : Nat) : Int) := by
  unfold shr
  rw [Nat.shiftRight_eq_div_pow, Int.toNat_natCast, Nat.min_eq_left (by show i ≤ 64; omega)]
  simp
theorem bit_one (a i : Nat) (ha : a < 65536) (hi : i ≤ 60) : Go.bits .and .i64 (shr .i64 (a : Int) (i : Int)) 1 = if a.testBit i then 1 else 0 := by
  rw [shr_nat a i hi, show (1 : Int) = ((1 : Nat) : Int) from rfl, and_nat _ _ (Nat.lt_of_le_of_lt (Nat.shiftRight_le _ _) ha) (by omega), Nat.and_one_is_mod]
  have : a.testBit i = decide (a >>> i % 2 = 1) := by rw [Nat.testBit, Nat.and_comm, Nat.and_one_is_mod]; rcases Nat.mod_two_eq_zero_or_one (a >>> i) with h | h <;> simp [h]
  rw [this]
  rcases Nat.mod_two_eq_zero_or_one (a >>> i) with h | h <;> simp [h]

/-- the indexes of a set, from one on -/
def setFrom (s : Nat) : Nat → Nat → List Nat
  | 0, _ => []
  | f + 1, i => (if s.testBit i then [i] else []) ++ setFrom s f (i + 1)
theorem setFrom_none {s : Nat} : ∀ {f i : Nat}, (∀ j, i ≤ j → s.testBit j = false) → setFrom s f i = []
  | 0, _, _ => rfl
  | f + 1, i, h => by rw [setFrom, h i (Nat.le_refl i), setFrom_none fun j hj => h j (by omega)]; rfl
theorem setFrom_incr {n s : Nat} : ∀ {f i : Nat}, f = n - i → Incr n i (setFrom s f i)
  | 0, _, _ => trivial
  | f + 1, i, h => by
    have ih := setFrom_incr (n := n) (s := s) (f := f) (i := i + 1) (by omega)
    rw [setFrom]
    cases s.testBit i
    · exact incr_lower (by omega) ih
    · exact ⟨Nat.le_refl i, by omega, ih⟩
theorem setFrom_mem {s : Nat} : ∀ {f i j : Nat}, j ∈ setFrom s f i ↔ i ≤ j ∧ j < i + f ∧ s.testBit j = true
  | 0, i, j => by simp [setFrom]; omega
  | f + 1, i, j => by
    rw [setFrom, List.mem_append, setFrom_mem]
    constructor
    · rintro (h | h)
      · split at h
        · rename_i hb
          have := List.mem_singleton.1 h
          subst this
          exact ⟨Nat.le_refl _, by omega, hb⟩
        · cases h
      · exact ⟨by omega, by omega, h.2.2⟩
    · rintro ⟨h1, h2, h3⟩
      by_cases e : j = i
      · subst e; left; rw [if_pos h3]; exact List.mem_singleton.2 rfl
      · exact .inr ⟨by omega, by omega, h3⟩
theorem setFrom_of {n s : Nat} : ∀ {f i : Nat} {u : List Nat}, f = n - i → Incr n i u → (∀ j, i ≤ j → j < n → (s.testBit j = true ↔ j ∈ u)) → setFrom s f i = u
  | 0, i, u, hf, hu, _ => by
    match u, hu with
    | [], _ => rfl
    | x :: t, ⟨h1, h2, _⟩ => omega
  | f + 1, i, u, hf, hu, h => by
    rw [setFrom]
    rcases incr_split hu with hu' | ⟨t, rfl, ht⟩
    · have hn : s.testBit i = false := by
        cases hb : s.testBit i
        · rfl
        · have := (h i (Nat.le_refl i) (by omega)).1 hb
          have := incr_ge hu' i this
          omega
      rw [hn, setFrom_of (n := n) (by omega) hu' fun j h1 h2 => h j (by omega) h2]; rfl
    · have hb := (h i (Nat.le_refl i) (by omega)).2 List.mem_cons_self
      rw [hb, setFrom_of (n := n) (u := t) (by omega) ht fun j h1 h2 => by
        rw [h j (by omega) h2, List.mem_cons]
        exact ⟨fun g => g.resolve_left (by omega), .inr⟩]; rfl
/-- the bits of a number that is made of bits -/
theorem bitsTo_bit (p : Nat → Bool) : ∀ k j, (bitsTo p k).testBit j = (decide (j < k) && p j)
  | 0, j => by simp [bitsTo]
  | k + 1, j => by
    rw [bitsTo]
    have hlt := bitsTo_lt p k
    cases hp : p k
    · rw [if_neg (by simp), Nat.add_zero, bitsTo_bit p k j]
      by_cases e : j = k
      · subst e; simp [hp]
      · have : decide (j < k) = decide (j < k + 1) := by rw [Bool.eq_iff_iff, decide_eq_true_eq, decide_eq_true_eq]; omega
        rw [this]
    · rw [if_pos rfl, Nat.add_comm]
      rcases Nat.lt_trichotomy j k with c | c | c
      · rw [Nat.testBit_two_pow_add_gt c, bitsTo_bit p k j]
        simp [c, Nat.lt_succ_of_lt c]
      · subst c
        rw [Nat.testBit_two_pow_add_eq, bitsTo_bit p j j]
        simp [hp]
      · have h1 : 2 ^ k + bitsTo p k < 2 ^ j := by
          have : 2 ^ (k + 1) ≤ 2 ^ j := Nat.pow_le_pow_right (by decide) c
          rw [Nat.pow_succ] at this
          omega
        rw [Nat.testBit_lt_two_pow h1]
        have : ¬ j < k + 1 := by omega
        simp [this]
end Go.Proofs.Ytbhcchhhpmlpmaa.Hand

/- The reference's clashes and margins, in plain numbers. -/
import Derived.Test.YtbhcchhhpmlpmaaMD
import Derived.Test.YtbhcchhhpmlpmaaMB
namespace Go.Proofs.Ytbhcchhhpmlpmaa.Hand
set_option linter.unusedVariables false
set_option linter.unusedSimpArgs false
open Go.RowKit Go.Proofs.YtbhcchhhpmlpmaaW.PrintWords Go.Proofs.YtbhcchhhpmlpmaaW.PrintLast Go.Proofs.YtbhcchhhpmlpmaaW.PrintMore Go.Proofs.Ytbhcchhhpmlpmaa.PrA Go.Proofs.Ytbhcchhhpmlpmaa.PrR

/-- how far two sets are -/
def farN (a b : Nat) : Nat := max (pc (dif a b)) (pc (dif b a))
theorem farN_comm (a b : Nat) : farN a b = farN b a := Nat.max_comm _ _
/-- the worn mark with the most strokes that can be both -/
def bothV (a b : Nat) (loss : Int) : Int := if (farN a b : Int) ≤ loss then ((a &&& b : Nat) : Int) else -1
theorem both_far {a b w : Nat} {loss : Int} (ha : a < 1024) (hb : b < 1024) (h1 : canBe w a loss = true) (h2 : canBe w b loss = true) : (farN a b : Int) ≤ loss := by
  obtain ⟨-, p1, p2⟩ := canBe_both ha hb h1 h2
  unfold farN; omega
theorem far_both {a b : Nat} {loss : Int} (ha : a < 1024) (hb : b < 1024) (h : (farN a b : Int) ≤ loss) : canBe (a &&& b) a loss = true ∧ canBe (a &&& b) b loss = true := by
  unfold farN at h
  exact canBe_and ha hb (by omega) (by omega)

theorem bothV_neg (a b : Nat) (loss : Int) : bothV a b loss < 0 ↔ ¬ (farN a b : Int) ≤ loss := by
  unfold bothV
  split
  · constructor
    · intro h; omega
    · intro h; contradiction
  · constructor
    · intro _; assumption
    · intro _; omega

/-- marks as they may be -/
def Marks (l : List Int) : Prop := ∀ i, i < l.length → rd l (i : Int) = (mk l i : Int) ∧ mk l i < 1024
theorem marks_of {a0 a1 : Int} {l : List Int} (ho : officeN a0 a1 l = 0) : Marks l := fun _ hi => ⟨mk_rd ho hi, mk_lt ho hi⟩
theorem farI_mk {l : List Int} (hl : Marks l) {i j : Nat} (hi : i < l.length) (hj : j < l.length) : farI (rd l (i : Int)) (rd l (j : Int)) = (farN (mk l i) (mk l j) : Int) := by
  rw [(hl i hi).1, (hl j hj).1, farI_nat _ _ (hl i hi).2 (hl j hj).2]; rfl
/-- do two marks clash? -/
def clN (l : List Int) (loss : Int) (i k : Nat) : Bool := decide ((farN (mk l i) (mk l k) : Int) ≤ loss)
theorem clN_comm (l : List Int) (loss : Int) (i k : Nat) : clN l loss i k = clN l loss k i := by rw [clN, clN, farN_comm]
def rowN (l : List Int) (loss : Int) (i : Nat) : Option Nat := inRow (clN l loss i) (l.length - (i + 1)) (i + 1)
/-- the first two marks that clash -/
def pairN (l : List Int) (loss : Int) : Option (Nat × Nat) := firstRow (rowN l loss) l.length 0
def pairI (p : Option (Nat × Nat)) : Int × Int := match p with | some (i, k) => ((i : Int), (k : Int)) | none => (-1, -1)
theorem inRow_none {p : Nat → Bool} : ∀ {m k : Nat}, inRow p m k = none ↔ ∀ j, k ≤ j → j < k + m → p j = false
  | 0, k => by simp [inRow]; intro j h1 h2; omega
  | m + 1, k => by
    rw [inRow]
    constructor
    · intro h j h1 h2
      cases hp : p k
      · rw [hp, if_neg (by simp)] at h
        by_cases e : j = k
        · rw [e, hp]
        · exact inRow_none.1 h j (by omega) (by omega)
      · rw [hp, if_pos rfl] at h; cases h
    · intro h
      rw [if_neg (by rw [h k (by omega) (by omega)]; simp)]
      exact inRow_none.2 fun j h1 h2 => h j (by omega) (by omega)
theorem inRow_some {p : Nat → Bool} : ∀ {m k r : Nat}, inRow p m k = some r → k ≤ r ∧ r < k + m ∧ p r = true
  | 0, k, r, h => by cases h
  | m + 1, k, r, h => by
    rw [inRow] at h
    cases hp : p k
    · rw [hp, if_neg (by simp)] at h
      obtain ⟨h1, h2, h3⟩ := inRow_some h
      exact ⟨by omega, by omega, h3⟩
    · rw [hp, if_pos rfl] at h
      obtain rfl := Option.some.inj h
      exact ⟨by omega, by omega, hp⟩
theorem inRow_skip {p : Nat → Bool} : ∀ (j m k : Nat), (∀ i, k ≤ i → i < k + j → p i = false) → inRow p (j + m) k = inRow p m (k + j)
  | 0, m, k, _ => by rw [Nat.zero_add, Nat.add_zero]
  | j + 1, m, k, h => by
    rw [show j + 1 + m = (j + m) + 1 by omega, inRow, if_neg (by rw [h k (by omega) (by omega)]; simp), inRow_skip j m (k + 1) (fun i h1 h2 => h i (by omega) (by omega))]
    congr 1; omega
theorem inRow_congr {p q : Nat → Bool} : ∀ {m k : Nat}, (∀ j, k ≤ j → j < k + m → p j = q j) → inRow p m k = inRow q m k
  | 0, _, _ => rfl
  | m + 1, k, h => by rw [inRow, inRow, h k (by omega) (by omega), inRow_congr fun j h1 h2 => h j (by omega) (by omega)]
theorem firstRow_none {f : Nat → Option Nat} : ∀ {m i : Nat}, firstRow f m i = none ↔ ∀ j, i ≤ j → j < i + m → f j = none
  | 0, i => by simp [firstRow]; intro j h1 h2; omega
  | m + 1, i => by
    rw [firstRow]
    constructor
    · intro h j h1 h2
      cases hf : f i with
      | some k => rw [hf] at h; cases h
      | none =>
        rw [hf] at h
        by_cases e : j = i
        · rw [e, hf]
        · exact firstRow_none.1 h j (by omega) (by omega)
    · intro h
      rw [h i (by omega) (by omega)]
      exact firstRow_none.2 fun j h1 h2 => h j (by omega) (by omega)
theorem firstRow_some {f : Nat → Option Nat} : ∀ {m i r s : Nat}, firstRow f m i = some (r, s) → i ≤ r ∧ r < i + m ∧ f r = some s
  | 0, _, _, _, h => by cases h
  | m + 1, i, r, s, h => by
    rw [firstRow] at h
    cases hf : f i with
    | some k =>
      rw [hf] at h
      cases h
      exact ⟨by omega, by omega, hf⟩
    | none =>
      rw [hf] at h
      obtain ⟨h1, h2, h3⟩ := firstRow_some h
      exact ⟨by omega, by omega, h3⟩
theorem firstRow_congr {f g : Nat → Option Nat} : ∀ {m i : Nat}, (∀ j, i ≤ j → j < i + m → f j = g j) → firstRow f m i = firstRow g m i
  | 0, _, _ => rfl
  | m + 1, i, h => by rw [firstRow, firstRow, h i (by omega) (by omega), firstRow_congr fun j h1 h2 => h j (by omega) (by omega)]
/-- do some two marks clash? -/
theorem pairN_none {l : List Int} {loss : Int} : pairN l loss = none ↔ ∀ i k, i < k → k < l.length → clN l loss i k = false := by
  unfold pairN
  rw [firstRow_none]
  constructor
  · intro h i k h1 h2
    have := h i (by omega) (by omega)
    rw [rowN, inRow_none] at this
    exact this k (by omega) (by omega)
  · intro h i h1 h2
    rw [rowN, inRow_none]
    intro k h3 h4
    exact h i k (by omega) (by omega)
theorem pairN_some {l : List Int} {loss : Int} {i k : Nat} (h : pairN l loss = some (i, k)) : i < k ∧ k < l.length ∧ clN l loss i k = true := by
  obtain ⟨h1, h2, h3⟩ := firstRow_some h
  rw [rowN] at h3
  obtain ⟨h4, h5, h6⟩ := inRow_some h3
  exact ⟨by omega, by omega, h6⟩
/-- what Apart comes to, in these words -/
theorem apartF_is {a0 a1 : Int} {l : List Int} (ho : officeN a0 a1 l = 0) : apartF a1 l = pairN l a1 := by
  unfold apartF pairN
  refine firstRow_congr fun i h1 h2 => ?_
  have hi : i < l.length := by omega
  have hm := marks_of ho
  rw [apartRow, rowN, show l.length = (i + 1) + (l.length - (i + 1)) by omega, inRow_skip (i + 1) _ 0 (fun k h3 h4 => by simp [clashT]; omega)]
  rw [Nat.zero_add, show i + 1 + (l.length - (i + 1)) - (i + 1) = l.length - (i + 1) by omega]
  refine inRow_congr fun k h3 h4 => ?_
  rw [clashT, farI_mk hm hi (by omega), clN]
  have e1 : decide ((0 : Int) ≤ (i : Int)) = true := decide_eq_true (by omega)
  have e2 : decide ((i : Int) < (k : Int)) = true := decide_eq_true (by omega)
  have e3 : decide ((k : Int) < (l.length : Int)) = true := decide_eq_true (by omega)
  rw [e1, e2, e3]; rfl
theorem le_marIn {l : List Int} {i : Nat} {m v : Int} : ∀ {k : Nat}, v ≤ marIn l i m k ↔ v ≤ m ∧ ∀ j, j < k → v ≤ farI (rd l (i : Int)) (rd l (j : Int)) - 1
  | 0 => by simp [marIn]
  | k + 1 => by
    rw [marIn]
    constructor
    · intro h
      obtain ⟨h1, h2⟩ := le_marIn.1 (show v ≤ marIn l i m k by omega)
      refine ⟨h1, fun j hj => ?_⟩
      by_cases e : j = k
      · subst e; omega
      · exact h2 j (by omega)
    · intro ⟨h1, h2⟩
      have h3 : v ≤ marIn l i m k := le_marIn.2 ⟨h1, fun j hj => h2 j (by omega)⟩
      have h4 := h2 k (by omega)
      omega
theorem le_marOut {a0 : Int} {l : List Int} {v : Int} : ∀ {n : Nat}, v ≤ marOut a0 l n ↔ v ≤ a0 ∧ ∀ i j, j < i → i < n → v ≤ farI (rd l (i : Int)) (rd l (j : Int)) - 1
  | 0 => by simp [marOut]
  | n + 1 => by
    rw [marOut, le_marIn, le_marOut]
    constructor
    · intro ⟨⟨h1, h2⟩, h3⟩
      refine ⟨h1, fun i j hj hi => ?_⟩
      by_cases e : i = n
      · subst e; exact h3 j hj
      · exact h2 i j hj (by omega)
    · intro ⟨h1, h2⟩
      exact ⟨⟨h1, fun i j hj hi => h2 i j hj (by omega)⟩, fun j hj => h2 n j hj (by omega)⟩
/-- with so many strokes lost no two marks clash, just if these are no more than the margin says -/
theorem pair_margin {a0 a1 : Int} {l : List Int} (ho : officeN a0 a1 l = 0) {loss : Int} (h0 : loss ≤ a0) : pairN l loss = none ↔ loss ≤ marOut a0 l l.length := by
  have hm := marks_of ho
  rw [pairN_none, le_marOut]
  constructor
  · intro h
    refine ⟨h0, fun i j hj hi => ?_⟩
    have := h j i hj hi
    rw [clN_comm] at this
    rw [farI_mk hm hi (by omega)]
    have h1 := of_decide_eq_false this
    omega
  · intro ⟨_, h⟩ i k hi hk
    have := h k i hi hk
    rw [farI_mk hm hk (by omega), farN_comm] at this
    exact decide_eq_false (by omega)
theorem marOut_ge {a0 a1 : Int} {l : List Int} (ho : officeN a0 a1 l = 0) : -1 ≤ marOut a0 l l.length := by
  have hz := office_zero ho
  rw [le_marOut]
  refine ⟨by omega, fun i j hj hi => ?_⟩
  have := far_bound ho i j hi (by omega)
  omega
theorem marOut_le (a0 : Int) (l : List Int) : marOut a0 l l.length ≤ a0 := (le_marOut.1 (Int.le_refl _)).1
theorem pairI_neg (p : Option (Nat × Nat)) : (pairI p).1 < 0 ↔ p = none := by
  cases p with
  | none => simp [pairI]
  | some q => obtain ⟨i, k⟩ := q; simp [pairI]
end Go.Proofs.Ytbhcchhhpmlpmaa.Hand

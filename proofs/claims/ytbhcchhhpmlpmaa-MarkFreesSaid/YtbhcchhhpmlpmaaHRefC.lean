/- The reference's clashes and margins, in plain numbers. -/
import Derived.Test.YtbhcchhhpmlpmaaMD
import Derived.Test.YtbhcchhhpmlpmaaPrT1
import Derived.Test.YtbhcchhhpmlpmaaMB
namespace Go.Proofs.Ytbhcchhhpmlpmaa.Hand
set_option linter.unusedVariables false
set_option linter.unusedSimpArgs false
open Go.RowKit Go.Proofs.YtbhcchhhpmlpmaaW.PrintWords Go.Proofs.YtbhcchhhpmlpmaaW.PrintLast Go.Proofs.YtbhcchhhpmlpmaaW.PrintMore Go.Proofs.Ytbhcchhhpmlpmaa.PrA Go.Proofs.Ytbhcchhhpmlpmaa.PrR Go.Proofs.Ytbhcchhhpmlpmaa.PrT

/-- how far two sets are -/
def farN (a b : Nat) : Nat := max (pc (dif a b)) (pc (dif b a))
theorem farN_comm (a b : Nat) : farN a b = farN b a := Nat.max_comm _ _
/-- the worn mark with the most strokes that can be both -/
def bothV (a b : Nat) (loss : Int) : Int := if (farN a b : Int) ≤ loss then ((a &&& b : Nat) : Int) else -1
theorem both_far {a b w : Nat} {loss : Int} (ha : a < 1024) (hb : b < 1024) (h1 : canBe w a loss = true) (h2 : canBe w b loss = true) : (farN a b : Int) ≤ loss := by
  obtain ⟨-, p1, p2⟩ := canBe_both ha hb h1 h2
  unfold farN; omega
theorem far_both {a b : Nat} {loss : Int} (ha : a < 1024) (hb : b < 1024) (h : (farN a b : Int) ≤ loss) : canBe (a &&& b) a loss = true ∧ canBe (a &&& b) b loss = true := by
  unfold farN at h
  exact canBe_and ha hb (by omega) (by omega)

theorem both_step (a b : Nat) (loss best : Int) (w k : Nat) (ha : a < 1024) (hb : b < 1024) (hw : w ≤ a) (hk : 12 ≤ k) :
    peaveyref01_Both.l0 (k + 1) a b loss best w = if canBe w a loss && canBe w b loss then (if best < 0 then peaveyref01_Both.l0 k a b loss w ((w + 1 : Nat) : Int) else
      ((peaveyref01_Size.f k best).bind fun t104 => (if (pc w : Int) > t104 then peaveyref01_Both.l0 k a b loss w ((w + 1 : Nat) : Int) else peaveyref01_Both.l0 k a b loss best ((w + 1 : Nat) : Int)))) else peaveyref01_Both.l0 k a b loss best ((w + 1 : Nat) : Int) := by
  rw [peaveyref01_Both.l0, if_pos (by omega), refCanBe_is w a loss (by omega) ha hk, refCanBe_is w b loss (by omega) hb hk, refSize_is w (by omega) hk, wsucc w (by omega)]
  simp only [Option.bind_some]
  cases canBe w a loss <;> cases canBe w b loss <;> simp
theorem both_last (a b : Nat) (loss best : Int) (w k : Nat) (hw : a < w) : peaveyref01_Both.l0 (k + 1) a b loss best w = some best := by
  rw [peaveyref01_Both.l0, if_neg (by omega)]
theorem both_none (a b : Nat) (loss : Int) (ha : a < 1024) (hb : b < 1024) (hn : ¬ (farN a b : Int) ≤ loss) : ∀ (m w : Nat), w + m = a + 1 → ∀ k, m + 12 < k → peaveyref01_Both.l0 k a b loss (-1) w = some (-1)
  | 0, w, hw, k + 1, _ => both_last a b loss (-1) w k (by omega)
  | m + 1, w, hw, k + 1, hk => by
    have hc : (canBe w a loss && canBe w b loss) = false := by
      cases h1 : canBe w a loss
      · rfl
      · cases h2 : canBe w b loss
        · rfl
        · exact absurd (both_far ha hb h1 h2) hn
    rw [both_step a b loss (-1) w k ha hb (by omega) (by omega), hc, if_neg (by simp)]
    exact both_none a b loss ha hb hn m (w + 1) (by omega) k (by omega)
theorem both_past (a b : Nat) (loss : Int) (ha : a < 1024) (hb : b < 1024) : ∀ (m w : Nat), w + m = a + 1 → ∀ k, m + 12 < k → peaveyref01_Both.l0 k a b loss ((a &&& b : Nat) : Int) w = some ((a &&& b : Nat) : Int)
  | 0, w, hw, k + 1, _ => both_last a b loss _ w k (by omega)
  | m + 1, w, hw, k + 1, hk => by
    have ih := both_past a b loss ha hb m (w + 1) (by omega) k (by omega)
    rw [both_step a b loss _ w k ha hb (by omega) (by omega)]
    cases h1 : canBe w a loss
    · simpa using ih
    · cases h2 : canBe w b loss
      · simpa using ih
      · have hs := (canBe_both ha hb h1 h2).1
        have hp : pc w ≤ pc (a &&& b) := pc_mono fun i _ hi => sub_bit hs hi
        rw [if_pos (by rfl), if_neg (by omega), refSize_is _ (and_lt ha) (by omega), Option.bind_some, if_neg (by omega)]
        exact ih
theorem both_find (a b : Nat) (loss : Int) (ha : a < 1024) (hb : b < 1024) (hf : (farN a b : Int) ≤ loss) : ∀ (m w : Nat) (best : Int), w + m = a + 1 → w ≤ a &&& b → (best = -1 ∨ ∃ n : Nat, best = (n : Int) ∧ n < 1024 ∧ pc n < pc (a &&& b)) →
    ∀ k, m + 12 < k → peaveyref01_Both.l0 k a b loss best w = some ((a &&& b : Nat) : Int)
  | 0, w, _, hw, hle, _, _, _ => by have := @Nat.and_le_left a b; omega
  | m + 1, w, best, hw, hle, hbest, k + 1, hk => by
    have hca := @Nat.and_le_left a b
    rw [both_step a b loss _ w k ha hb (by omega) (by omega)]
    by_cases e : w = a &&& b
    · subst e
      obtain ⟨h1, h2⟩ := far_both ha hb hf
      rw [h1, h2, if_pos (by rfl)]
      have ih := both_past a b loss ha hb m ((a &&& b) + 1) (by omega) k (by omega)
      rcases hbest with rfl | ⟨n, rfl, hn, hp⟩
      · rw [if_pos (by omega)]; exact ih
      · rw [if_neg (by omega), refSize_is n hn (by omega), Option.bind_some, if_pos (by omega)]; exact ih
    · have ih := fun best' hb' => both_find a b loss ha hb hf m (w + 1) best' (by omega) (by omega) hb' k (by omega)
      cases h1 : canBe w a loss
      · simpa using ih best hbest
      · cases h2 : canBe w b loss
        · simpa using ih best hbest
        · have hs := (canBe_both ha hb h1 h2).1
          have hp : pc w < pc (a &&& b) := by
            have h3 : pc w ≤ pc (a &&& b) := pc_mono fun i _ hi => sub_bit hs hi
            rcases Nat.lt_or_ge (pc w) (pc (a &&& b)) with g | g
            · exact g
            · exact absurd (sub_eq (by omega) (and_lt ha) hs g) e
          have hw' := ih (w : Int) (.inr ⟨w, rfl, by omega, hp⟩)
          rw [if_pos (by rfl)]
          rcases hbest with rfl | ⟨n, rfl, hn, hpn⟩
          · rw [if_pos (by omega)]; exact hw'
          · rw [if_neg (by omega), refSize_is n hn (by omega), Option.bind_some]
            split
            · exact hw'
            · exact ih _ (.inr ⟨n, rfl, hn, hpn⟩)
theorem refBoth_is (a b : Nat) (loss : Int) (ha : a < 1024) (hb : b < 1024) {k : Nat} (hk : 1100 ≤ k) : peaveyref01_Both.f k a b loss = some (bothV a b loss) := by
  unfold peaveyref01_Both.f bothV
  by_cases h : (farN a b : Int) ≤ loss
  · rw [if_pos h]
    exact both_find a b loss ha hb h (a + 1) 0 (-1) (by omega) (by omega) (.inl rfl) k (by omega)
  · rw [if_neg h]
    exact both_none a b loss ha hb h (a + 1) 0 (by omega) k (by omega)
theorem bothV_neg (a b : Nat) (loss : Int) : bothV a b loss < 0 ↔ ¬ (farN a b : Int) ≤ loss := by
  unfold bothV
  split
  · constructor
    · intro h; omega
    · intro h; contradiction
  · constructor
    · intro _; assumption
    · intro _; omega

/-- marks as they may be -/
def Marks (l : List Int) : Prop := ∀ i, i < l.length → rd l (i : Int) = (mk l i : Int) ∧ mk l i < 1024
theorem marks_of {a0 a1 : Int} {l : List Int} (ho : officeN a0 a1 l = 0) : Marks l := fun _ hi => ⟨mk_rd ho hi, mk_lt ho hi⟩
theorem farI_mk {l : List Int} (hl : Marks l) {i j : Nat} (hi : i < l.length) (hj : j < l.length) : farI (rd l (i : Int)) (rd l (j : Int)) = (farN (mk l i) (mk l j) : Int) := by
  rw [(hl i hi).1, (hl j hj).1, farI_nat _ _ (hl i hi).2 (hl j hj).2]; rfl
/-- do two marks clash? -/
def clN (l : List Int) (loss : Int) (i k : Nat) : Bool := decide ((farN (mk l i) (mk l k) : Int) ≤ loss)
theorem clN_comm (l : List Int) (loss : Int) (i k : Nat) : clN l loss i k = clN l loss k i := by rw [clN, clN, farN_comm]
def rowN (l : List Int) (loss : Int) (i : Nat) : Option Nat := inRow (clN l loss i) (l.length - (i + 1)) (i + 1)
/-- the first two marks that clash -/
def pairN (l : List Int) (loss : Int) : Option (Nat × Nat) := firstRow (rowN l loss) l.length 0
def pairI (p : Option (Nat × Nat)) : Int × Int := match p with | some (i, k) => ((i : Int), (k : Int)) | none => (-1, -1)
theorem apart_row (l : List Int) (loss : Int) (hl : Marks l) (h24 : l.length ≤ 40) (i : Nat) (hi : i < l.length) (K : Nat) (next : ∀ k, K ≤ k → peaveyref01_AreApart.l0 k l loss ((i + 1 : Nat) : Int) = some (pairI (firstRow (rowN l loss) (l.length - (i + 1)) (i + 1)))) (hK : 1100 ≤ K) :
    ∀ (m j : Nat), j + m = l.length → ∀ k, m + K < k → peaveyref01_AreApart.l1 k l loss (i : Int) (j : Int) = some (match inRow (clN l loss i) m j with | some k' => ((i : Int), (k' : Int)) | none => pairI (firstRow (rowN l loss) (l.length - (i + 1)) (i + 1)))
  | 0, j, hj, k + 1, hk => by
    rw [peaveyref01_AreApart.l1, if_neg (by omega), wsucc i (by omega), next k (by omega)]; rfl
  | m + 1, j, hj, k + 1, hk => by
    have hjl : j < l.length := by omega
    rw [peaveyref01_AreApart.l1, if_pos (by omega), if_pos (by omega), if_pos (by omega), if_pos (by omega), (hl i hi).1, (hl j hjl).1, refBoth_is _ _ loss (hl i hi).2 (hl j hjl).2 (by omega), Option.bind_some, wsucc j (by omega), inRow]
    by_cases h : (farN (mk l i) (mk l j) : Int) ≤ loss
    · have h1 : clN l loss i j = true := decide_eq_true h
      have h2 : ¬ bothV (mk l i) (mk l j) loss < 0 := fun h' => (bothV_neg _ _ _).1 h' h
      rw [if_pos (by omega), h1, if_pos rfl]
    · have h1 : clN l loss i j = false := decide_eq_false h
      have h2 := (bothV_neg (mk l i) (mk l j) loss).2 h
      rw [if_neg (by omega), h1, if_neg (by simp)]
      exact apart_row l loss hl h24 i hi K next hK m (j + 1) (by omega) k (by omega)
theorem apart_loop (l : List Int) (loss : Int) (hl : Marks l) (h24 : l.length ≤ 40) : ∀ (m i : Nat), i + m = l.length → ∀ k, 1200 + 50 * m ≤ k → peaveyref01_AreApart.l0 k l loss (i : Int) = some (pairI (firstRow (rowN l loss) m i))
  | 0, i, hi, k + 1, _ => by rw [peaveyref01_AreApart.l0, if_neg (by omega)]; rfl
  | m + 1, i, hi, k + 1, hk => by
    have hil : i < l.length := by omega
    have hm : l.length - (i + 1) = m := by omega
    rw [peaveyref01_AreApart.l0, if_pos (by omega), wsucc i (by omega)]
    have := apart_row l loss hl h24 i hil (1200 + 50 * m) (fun k' hk' => by rw [hm]; exact apart_loop l loss hl h24 m (i + 1) (by omega) k' hk') (by omega) m (i + 1) (by omega) k (by omega)
    rw [this, hm, firstRow]
    have e : rowN l loss i = inRow (clN l loss i) m (i + 1) := by rw [rowN, hm]
    rw [e]
    cases inRow (clN l loss i) m (i + 1) <;> rfl
theorem refApart_is (l : List Int) (loss : Int) (hl : Marks l) (h24 : l.length ≤ 40) {k : Nat} (hk : 3200 ≤ k) : peaveyref01_AreApart.f k l loss = some (pairI (pairN l loss)) :=
  apart_loop l loss hl h24 l.length 0 (by omega) k (by omega)

theorem inRow_none {p : Nat → Bool} : ∀ {m k : Nat}, inRow p m k = none ↔ ∀ j, k ≤ j → j < k + m → p j = false
  | 0, k => by simp [inRow]; intro j h1 h2; omega
  | m + 1, k => by
    rw [inRow]
    constructor
    · intro h j h1 h2
      cases hp : p k
      · rw [hp, if_neg (by simp)] at h
        by_cases e : j = k
        · rw [e, hp]
        · exact inRow_none.1 h j (by omega) (by omega)
      · rw [hp, if_pos rfl] at h; cases h
    · intro h
      rw [if_neg (by rw [h k (by omega) (by omega)]; simp)]
      exact inRow_none.2 fun j h1 h2 => h j (by omega) (by omega)
theorem inRow_some {p : Nat → Bool} : ∀ {m k r : Nat}, inRow p m k = some r → k ≤ r ∧ r < k + m ∧ p r = true
  | 0, k, r, h => by cases h
  | m + 1, k, r, h => by
    rw [inRow] at h
    cases hp : p k
    · rw [hp, if_neg (by simp)] at h
      obtain ⟨h1, h2, h3⟩ := inRow_some h
      exact ⟨by omega, by omega, h3⟩
    · rw [hp, if_pos rfl] at h
      obtain rfl := Option.some.inj h
      exact ⟨by omega, by omega, hp⟩
theorem inRow_skip {p : Nat → Bool} : ∀ (j m k : Nat), (∀ i, k ≤ i → i < k + j → p i = false) → inRow p (j + m) k = inRow p m (k + j)
  | 0, m, k, _ => by rw [Nat.zero_add, Nat.add_zero]
  | j + 1, m, k, h => by
    rw [show j + 1 + m = (j + m) + 1 by omega, inRow, if_neg (by rw [h k (by omega) (by omega)]; simp), inRow_skip j m (k + 1) (fun i h1 h2 => h i (by omega) (by omega))]
    congr 1; omega
theorem inRow_congr {p q : Nat → Bool} : ∀ {m k : Nat}, (∀ j, k ≤ j → j < k + m → p j = q j) → inRow p m k = inRow q m k
  | 0, _, _ => rfl
  | m + 1, k, h => by rw [inRow, inRow, h k (by omega) (by omega), inRow_congr fun j h1 h2 => h j (by omega) (by omega)]
theorem firstRow_none {f : Nat → Option Nat} : ∀ {m i : Nat}, firstRow f m i = none ↔ ∀ j, i ≤ j → j < i + m → f j = none
  | 0, i => by simp [firstRow]; intro j h1 h2; omega
  | m + 1, i => by
    rw [firstRow]
    constructor
    · intro h j h1 h2
      cases hf : f i with
      | some k => rw [hf] at h; cases h
      | none =>
        rw [hf] at h
        by_cases e : j = i
        · rw [e, hf]
        · exact firstRow_none.1 h j (by omega) (by omega)
    · intro h
      rw [h i (by omega) (by omega)]
      exact firstRow_none.2 fun j h1 h2 => h j (by omega) (by omega)
theorem firstRow_some {f : Nat → Option Nat} : ∀ {m i r s : Nat}, firstRow f m i = some (r, s) → i ≤ r ∧ r < i + m ∧ f r = some s
  | 0, _, _, _, h => by cases h
  | m + 1, i, r, s, h => by
    rw [firstRow] at h
    cases hf : f i with
    | some k =>
      rw [hf] at h
      cases h
      exact ⟨by omega, by omega, hf⟩
    | none =>
      rw [hf] at h
      obtain ⟨h1, h2, h3⟩ := firstRow_some h
      exact ⟨by omega, by omega, h3⟩
theorem firstRow_congr {f g : Nat → Option Nat} : ∀ {m i : Nat}, (∀ j, i ≤ j → j < i + m → f j = g j) → firstRow f m i = firstRow g m i
  | 0, _, _ => rfl
  | m + 1, i, h => by rw [firstRow, firstRow, h i (by omega) (by omega), firstRow_congr fun j h1 h2 => h j (by omega) (by omega)]
/-- do some two marks clash? -/
theorem pairN_none {l : List Int} {loss : Int} : pairN l loss = none ↔ ∀ i k, i < k → k < l.length → clN l loss i k = false := by
  unfold pairN
  rw [firstRow_none]
  constructor
  · intro h i k h1 h2
    have := h i (by omega) (by omega)
    rw [rowN, inRow_none] at this
    exact this k (by omega) (by omega)
  · intro h i h1 h2
    rw [rowN, inRow_none]
    intro k h3 h4
    exact h i k (by omega) (by omega)
theorem pairN_some {l : List Int} {loss : Int} {i k : Nat} (h : pairN l loss = some (i, k)) : i < k ∧ k < l.length ∧ clN l loss i k = true := by
  obtain ⟨h1, h2, h3⟩ := firstRow_some h
  rw [rowN] at h3
  obtain ⟨h4, h5, h6⟩ := inRow_some h3
  exact ⟨by omega, by omega, h6⟩
/-- what Apart comes to, in these words -/
theorem apartF_is {a0 a1 : Int} {l : List Int} (ho : officeN a0 a1 l = 0) : apartF a1 l = pairN l a1 := by
  unfold apartF pairN
  refine firstRow_congr fun i h1 h2 => ?_
  have hi : i < l.length := by omega
  have hm := marks_of ho
  rw [apartRow, rowN, show l.length = (i + 1) + (l.length - (i + 1)) by omega, inRow_skip (i + 1) _ 0 (fun k h3 h4 => by simp [clashT]; omega)]
  rw [Nat.zero_add, show i + 1 + (l.length - (i + 1)) - (i + 1) = l.length - (i + 1) by omega]
  refine inRow_congr fun k h3 h4 => ?_
  rw [clashT, farI_mk hm hi (by omega), clN]
  have e1 : decide ((0 : Int) ≤ (i : Int)) = true := decide_eq_true (by omega)
  have e2 : decide ((i : Int) < (k : Int)) = true := decide_eq_true (by omega)
  have e3 : decide ((k : Int) < (l.length : Int)) = true := decide_eq_true (by omega)
  rw [e1, e2, e3]; rfl
theorem refApartF_is (a0 a1 : Int) (l : List Int) {k : Nat} (hk : 3200 ≤ k) : peaveyref01_Apart.f k a0 a1 l = mark_Apart.f a0 a1 l := by
  unfold peaveyref01_Apart.f mark_Apart.f
  rw [refOffice_is a0 a1 l (by omega), Option.bind_some]
  by_cases ho : officeN a0 a1 l = 0
  · have hz := office_zero ho
    rw [if_pos ho, if_neg (fun h => h ho), refApart_is l a1 (marks_of ho) (by omega) hk, Option.bind_some, apartV, apartF_is ho]
    cases pairN l a1 with
    | none => rfl
    | some p =>
      obtain ⟨i, j⟩ := p
      show (if ((i : Int)) ≥ 0 then _ else _) = _
      rw [if_pos (by omega)]; rfl
  · rw [if_neg ho, if_pos ho]; rfl
theorem refClash_is (a0 a1 : Int) (l : List Int) (x y : Int) {k : Nat} (hk : 1200 ≤ k) : peaveyref01_Clash.f k a0 a1 l x y = mark_Clash.f a0 a1 l x y := by
  obtain ⟨k, rfl⟩ : ∃ j, k = j + 1 := ⟨k - 1, by omega⟩
  unfold peaveyref01_Clash.f mark_Clash.f
  rw [refOffice_is a0 a1 l (by omega), Option.bind_some]
  by_cases ho : officeN a0 a1 l = 0
  · have hm := marks_of ho
    rw [if_pos ho, if_neg (fun h => h ho)]
    unfold peaveyref01_IsOwner.f
    have hx : outB 0 ((l.length : Int) - 1) x = !(decide (0 ≤ x) && decide (x < (l.length : Int))) := by
      unfold outB; rw [Bool.eq_iff_iff]; simp; omega
    have hy : outB 0 ((l.length : Int) - 1) y = !(decide (0 ≤ y) && decide (y < (l.length : Int))) := by
      unfold outB; rw [Bool.eq_iff_iff]; simp; omega
    rw [hx, hy]
    by_cases c1 : 0 ≤ x ∧ x < (l.length : Int)
    · have e1 : (decide (0 ≤ x) && decide (x < (l.length : Int))) = true := by simp [c1.1, c1.2]
      rw [e1, if_pos c1.1, decide_eq_true c1.2, Option.bind_some, if_pos rfl]
      by_cases c2 : 0 ≤ y ∧ y < (l.length : Int)
      · have e2 : (decide (0 ≤ y) && decide (y < (l.length : Int))) = true := by simp [c2.1, c2.2]
        rw [e2, if_pos c2.1, decide_eq_true c2.2, Option.bind_some]
        rw [peaveyref01_Clash.j0, if_neg (by simp), clashV]
        by_cases e : x = y
        · rw [if_pos e, if_pos e]; rfl
        · rw [if_neg e, if_neg e, if_pos c1.1, if_pos c1.2, if_pos c2.1, if_pos c2.2]
          obtain ⟨i, rfl⟩ := Int.eq_ofNat_of_zero_le c1.1
          obtain ⟨j, rfl⟩ := Int.eq_ofNat_of_zero_le c2.1
          have hi : i < l.length := by omega
          have hj : j < l.length := by omega
          rw [farI_mk hm hi hj, (hm i hi).1, (hm j hj).1, refBoth_is _ _ a1 (hm i hi).2 (hm j hj).2 (by omega), Option.bind_some]
          by_cases h : (farN (mk l i) (mk l j) : Int) ≤ a1
          · have h2 : ¬ bothV (mk l i) (mk l j) a1 < 0 := fun h' => (bothV_neg _ _ _).1 h' h
            rw [if_neg h2, if_pos h, bothV, if_pos h, i64_and_nat _ _ (hm i hi).2 (hm j hj).2]; rfl
          · rw [if_pos ((bothV_neg _ _ _).2 h), if_neg h]; rfl
      · have e2 : (decide (0 ≤ y) && decide (y < (l.length : Int))) = false := by
          rw [Bool.and_eq_false_iff]; simp; omega
        rw [e2]
        by_cases c3 : y ≥ 0
        · rw [if_pos c3, decide_eq_false (by omega), Option.bind_some, peaveyref01_Clash.j0, Bool.not_false, if_pos rfl]; rfl
        · rw [if_neg c3, Option.bind_some, peaveyref01_Clash.j0, Bool.not_false, if_pos rfl]; rfl
    · have e1 : (decide (0 ≤ x) && decide (x < (l.length : Int))) = false := by
        rw [Bool.and_eq_false_iff]; simp; omega
      rw [e1]
      by_cases c3 : x ≥ 0
      · rw [if_pos c3, decide_eq_false (by omega), Option.bind_some, if_neg (by simp), peaveyref01_Clash.j0, if_pos rfl]; rfl
      · rw [if_neg c3, Option.bind_some, if_neg (by simp), peaveyref01_Clash.j0, if_pos rfl]; rfl
  · rw [if_neg ho, if_pos ho]; rfl

theorem le_marIn {l : List Int} {i : Nat} {m v : Int} : ∀ {k : Nat}, v ≤ marIn l i m k ↔ v ≤ m ∧ ∀ j, j < k → v ≤ farI (rd l (i : Int)) (rd l (j : Int)) - 1
  | 0 => by simp [marIn]
  | k + 1 => by
    rw [marIn]
    constructor
    · intro h
      obtain ⟨h1, h2⟩ := le_marIn.1 (show v ≤ marIn l i m k by omega)
      refine ⟨h1, fun j hj => ?_⟩
      by_cases e : j = k
      · subst e; omega
      · exact h2 j (by omega)
    · intro ⟨h1, h2⟩
      have h3 : v ≤ marIn l i m k := le_marIn.2 ⟨h1, fun j hj => h2 j (by omega)⟩
      have h4 := h2 k (by omega)
      omega
theorem le_marOut {a0 : Int} {l : List Int} {v : Int} : ∀ {n : Nat}, v ≤ marOut a0 l n ↔ v ≤ a0 ∧ ∀ i j, j < i → i < n → v ≤ farI (rd l (i : Int)) (rd l (j : Int)) - 1
  | 0 => by simp [marOut]
  | n + 1 => by
    rw [marOut, le_marIn, le_marOut]
    constructor
    · intro ⟨⟨h1, h2⟩, h3⟩
      refine ⟨h1, fun i j hj hi => ?_⟩
      by_cases e : i = n
      · subst e; exact h3 j hj
      · exact h2 i j hj (by omega)
    · intro ⟨h1, h2⟩
      exact ⟨⟨h1, fun i j hj hi => h2 i j hj (by omega)⟩, fun j hj => h2 n j hj (by omega)⟩
/-- with so many strokes lost no two marks clash, just if these are no more than the margin says -/
theorem pair_margin {a0 a1 : Int} {l : List Int} (ho : officeN a0 a1 l = 0) {loss : Int} (h0 : loss ≤ a0) : pairN l loss = none ↔ loss ≤ marOut a0 l l.length := by
  have hm := marks_of ho
  rw [pairN_none, le_marOut]
  constructor
  · intro h
    refine ⟨h0, fun i j hj hi => ?_⟩
    have := h j i hj hi
    rw [clN_comm] at this
    rw [farI_mk hm hi (by omega)]
    have h1 := of_decide_eq_false this
    omega
  · intro ⟨_, h⟩ i k hi hk
    have := h k i hi hk
    rw [farI_mk hm hk (by omega), farN_comm] at this
    exact decide_eq_false (by omega)
theorem marOut_ge {a0 a1 : Int} {l : List Int} (ho : officeN a0 a1 l = 0) : -1 ≤ marOut a0 l l.length := by
  have hz := office_zero ho
  rw [le_marOut]
  refine ⟨by omega, fun i j hj hi => ?_⟩
  have := far_bound ho i j hi (by omega)
  omega
theorem marOut_le (a0 : Int) (l : List Int) : marOut a0 l l.length ≤ a0 := (le_marOut.1 (Int.le_refl _)).1
theorem pairI_neg (p : Option (Nat × Nat)) : (pairI p).1 < 0 ↔ p = none := by
  cases p with
  | none => simp [pairI]
  | some q => obtain ⟨i, k⟩ := q; simp [pairI]
theorem margin_loop {a0 a1 : Int} {l : List Int} (ho : officeN a0 a1 l = 0) : ∀ (m : Nat) (loss : Int), loss + 1 = m → marOut a0 l l.length ≤ loss → loss ≤ a0 → ∀ k, m + 3200 < k → peaveyref01_Margin.l0 k loss a0 a1 l = some (marOut a0 l l.length, 0)
  | 0, loss, hl, hle, _, k + 1, _ => by
    have := marOut_ge ho
    rw [peaveyref01_Margin.l0, if_neg (by omega), show marOut a0 l l.length = -1 by omega]
  | m + 1, loss, hl, hle, h0, k + 1, hk => by
    have hz := office_zero ho
    rw [peaveyref01_Margin.l0, if_pos (by omega), refApart_is l loss (marks_of ho) (by omega) (by omega), Option.bind_some]
    by_cases h : loss ≤ marOut a0 l l.length
    · rw [if_pos ((pairI_neg _).2 ((pair_margin ho h0).2 h)), show marOut a0 l l.length = loss by omega]
    · rw [if_neg (fun h' => h ((pair_margin ho h0).1 ((pairI_neg _).1 h'))), w64 (by omega)]
      exact margin_loop ho m (loss - 1) (by omega) (by omega) (by omega) k (by omega)
theorem refMargin_is (a0 a1 : Int) (l : List Int) {k : Nat} (hk : 3300 ≤ k) : peaveyref01_Margin.f k a0 a1 l = mark_Margin.f a0 a1 l := by
  unfold peaveyref01_Margin.f mark_Margin.f
  rw [refOffice_is a0 a1 l (by omega), Option.bind_some]
  by_cases ho : officeN a0 a1 l = 0
  · have hz := office_zero ho
    rw [if_pos ho, if_neg (fun h => h ho)]
    exact margin_loop ho (a0 + 1).toNat a0 (by omega) (marOut_le a0 l) (Int.le_refl _) k (by omega)
  · rw [if_neg ho, if_pos ho]; rfl
end Go.Proofs.Ytbhcchhhpmlpmaa.Hand

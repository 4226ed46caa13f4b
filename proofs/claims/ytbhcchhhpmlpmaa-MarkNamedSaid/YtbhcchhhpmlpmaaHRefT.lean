/- The reference's Told, in plain numbers. -/
import Derived.Test.YtbhcchhhpmlpmaaHRefC
import Derived.Test.YtbhcchhhpmlpmaaHRefA
import Derived.Test.YtbhcchhhpmlpmaaPrU2
import Derived.Test.YtbhcchhhpmlpmaaMB
namespace Go.Proofs.Ytbhcchhhpmlpmaa.Hand
set_option linter.unusedVariables false
set_option linter.unusedSimpArgs false
open Go.RowKit Go.Proofs.YtbhcchhhpmlpmaaW.PrintWords Go.Proofs.YtbhcchhhpmlpmaaW.PrintLast Go.Proofs.YtbhcchhhpmlpmaaW.PrintMore Go.Proofs.Ytbhcchhhpmlpmaa.PrA Go.Proofs.Ytbhcchhhpmlpmaa.PrR Go.Proofs.Ytbhcchhhpmlpmaa.PrU

/-- can what is left of a mark be no other owner's? -/
def otherB (l : List Int) (a1 : Int) (ow w i : Nat) : Bool := decide (i = ow) || !canBe w (mk l i) a1
def leftB (l : List Int) (a1 : Int) (ow : Nat) (t : Int) (w : Nat) : Bool := !canBe w (mk l ow) t || allFrom (otherB l a1 ow w) l.length 0
theorem told_row {a0 a1 : Int} {l : List Int} (ho : officeN a0 a1 l = 0) (ow w : Nat) (t : Int) (R : Bool) (hw : w < 1024) (K : Nat) (hK : 12 ≤ K)
    (next : ∀ k, K ≤ k → peaveyref01_IsTold.l0 k (ow : Int) t (mk l ow : Int) ((w + 1 : Nat) : Int) a0 a1 l = some R) :
    ∀ (m i : Nat), i + m = l.length → ∀ k, m + K < k → peaveyref01_IsTold.l1 k (ow : Int) t (mk l ow : Int) (w : Int) (i : Int) a0 a1 l = some (allFrom (otherB l a1 ow w) m i && R)
  | 0, i, hi, k + 1, hk => by
    rw [peaveyref01_IsTold.l1, if_neg (by omega), wsucc w (by omega), next k (by omega)]; rfl
  | m + 1, i, hi, k + 1, hk => by
    have hil : i < l.length := by omega
    have h12 := (office_zero ho).2.2.2.2.1
    have ih := told_row ho ow w t R hw K hK next m (i + 1) (by omega) k (by omega)
    rw [peaveyref01_IsTold.l1, if_pos (by omega), wsucc i (by omega), allFrom, otherB]
    by_cases e : i = ow
    · rw [if_pos (by omega), ih, decide_eq_true e]; rfl
    · rw [if_neg (by omega), if_pos (by omega), mk_rd ho hil, refCanBe_is w _ a1 hw (mk_lt ho hil) (by omega), Option.bind_some, decide_eq_false e]
      cases hc : canBe w (mk l i) a1
      · rw [if_neg (by simp), ih]; rfl
      · rw [if_pos rfl]; rfl
theorem told_loop {a0 a1 : Int} {l : List Int} (ho : officeN a0 a1 l = 0) (ow : Nat) (how : ow < l.length) (t : Int) : ∀ (m w : Nat), w + m = mk l ow + 1 → ∀ k, 60 + 20 * m ≤ k →
    peaveyref01_IsTold.l0 k (ow : Int) t (mk l ow : Int) (w : Int) a0 a1 l = some (allFrom (leftB l a1 ow t) m w)
  | 0, w, hw, k + 1, _ => by rw [peaveyref01_IsTold.l0, if_neg (by omega)]; rfl
  | m + 1, w, hw, k + 1, hk => by
    have hlt := mk_lt ho how
    have h12 := (office_zero ho).2.2.2.2.1
    have ih := fun k' hk' => told_loop ho ow how t m (w + 1) (by omega) k' hk'
    rw [peaveyref01_IsTold.l0, if_pos (by omega), refCanBe_is w _ t (by omega) hlt (by omega), Option.bind_some, allFrom, leftB]
    cases hc : canBe w (mk l ow) t
    · rw [if_neg (by simp), wsucc w (by omega), ih k (by omega)]; rfl
    · rw [if_pos rfl]
      have := told_row ho ow w t _ (by omega) (60 + 20 * m) (by omega) ih l.length 0 (by omega) k (by omega)
      rw [show ((0 : Nat) : Int) = 0 from rfl] at this
      rw [this]; rfl
/-- is an owner told after so many losses? -/
def toldP (l : List Int) (a1 : Int) (ow : Nat) (t : Int) : Prop := ∀ i, i < l.length → i ≠ ow → (pc (dif (mk l i) (mk l ow)) : Int) ≤ a1 → t < (pc (dif (mk l ow) (mk l i)) : Int)
theorem told_iff {a0 a1 : Int} {l : List Int} (ho : officeN a0 a1 l = 0) (ow : Nat) (how : ow < l.length) (t : Int) : allFrom (leftB l a1 ow t) (mk l ow + 1) 0 = true ↔ toldP l a1 ow t := by
  have hlt := mk_lt ho how
  rw [allFrom_iff]
  constructor
  · intro h i hi hne hp
    rcases Int.lt_or_le t (pc (dif (mk l ow) (mk l i)) : Int) with g | g
    · exact g
    · exfalso
      obtain ⟨c1, c2⟩ := canBe_and hlt (mk_lt ho hi) g hp
      have hle := @Nat.and_le_left (mk l ow) (mk l i)
      have := h (mk l ow &&& mk l i) (by omega) (by omega)
      rw [leftB, c1, Bool.not_true, Bool.false_or, allFrom_iff] at this
      have h2 := this i (by omega) (by omega)
      rw [otherB, c2, decide_eq_false hne] at h2
      cases h2
  · intro h w _ hw
    rw [leftB]
    cases hc : canBe w (mk l ow) t
    · rfl
    · rw [Bool.not_true, Bool.false_or, allFrom_iff]
      intro i _ hi
      rw [otherB]
      by_cases e : i = ow
      · simp [e]
      · cases hci : canBe w (mk l i) a1
        · simp
        · exfalso
          obtain ⟨-, p1, p2⟩ := canBe_both hlt (mk_lt ho (by omega)) hc hci
          have := h i (by omega) e p2
          omega
theorem refIsTold_is {a0 a1 : Int} {l : List Int} (ho : officeN a0 a1 l = 0) (ow : Nat) (how : ow < l.length) (t : Int) {k : Nat} (hk : 21000 ≤ k) : peaveyref01_IsTold.f k a0 a1 l (ow : Int) t = some (allFrom (leftB l a1 ow t) (mk l ow + 1) 0) := by
  have hlt := mk_lt ho how
  unfold peaveyref01_IsTold.f
  rw [if_pos (by omega), if_pos (by omega), mk_rd ho how]
  exact told_loop ho ow how t (mk l ow + 1) 0 (by omega) k (by omega)

theorem le_toldTo {a0 a1 : Int} {l : List Int} (ho : officeN a0 a1 l = 0) {ow : Nat} (how : ow < l.length) {v : Int} : ∀ {n : Nat}, n ≤ l.length → (v ≤ toldTo a1 l (ow : Int) n ↔ v ≤ a1 ∧ ∀ i, i < n → i ≠ ow → (pc (dif (mk l i) (mk l ow)) : Int) ≤ a1 → v ≤ (pc (dif (mk l ow) (mk l i)) : Int) - 1)
  | 0, _ => by simp [toldTo]
  | n + 1, hn => by
    have hl := mk_lt ho how
    have hl2 := mk_lt ho (show n < l.length by omega)
    have ih := le_toldTo ho how (v := v) (n := n) (by omega)
    rw [toldTo, mk_rd ho how, mk_rd ho (show n < l.length by omega), i64_andNot_nat _ _ hl2 hl, i64_andNot_nat _ _ hl hl2, szI_table _ (dif_lt _ _), szI_table _ (dif_lt _ _)]
    by_cases c : (n : Int) ≠ (ow : Int) ∧ (pc (dif (mk l n) (mk l ow)) : Int) ≤ a1
    · rw [if_pos c]
      constructor
      · intro h
        obtain ⟨h1, h2⟩ := ih.1 (by omega)
        refine ⟨h1, fun i hi hne hp => ?_⟩
        by_cases e : i = n
        · subst e; omega
        · exact h2 i (by omega) hne hp
      · intro ⟨h1, h2⟩
        have h3 := ih.2 ⟨h1, fun i hi hne hp => h2 i (by omega) hne hp⟩
        have h4 := h2 n (by omega) (by omega) c.2
        omega
    · rw [if_neg c, ih]
      constructor
      · intro ⟨h1, h2⟩
        refine ⟨h1, fun i hi hne hp => ?_⟩
        by_cases e : i = n
        · subst e; exact absurd ⟨by omega, hp⟩ c
        · exact h2 i (by omega) hne hp
      · intro ⟨h1, h2⟩
        exact ⟨h1, fun i hi hne hp => h2 i (by omega) hne hp⟩
theorem told_le {a0 a1 : Int} {l : List Int} (ho : officeN a0 a1 l = 0) {ow : Nat} (how : ow < l.length) {t : Int} (ht : t ≤ a1) : toldP l a1 ow t ↔ t ≤ toldTo a1 l (ow : Int) l.length := by
  rw [le_toldTo ho how (Nat.le_refl _)]
  constructor
  · intro h
    exact ⟨ht, fun i hi hne hp => by have := h i hi hne hp; omega⟩
  · intro ⟨_, h⟩ i hi hne hp
    have := h i hi hne hp
    omega
theorem toldTo_ge {a0 a1 : Int} {l : List Int} (ho : officeN a0 a1 l = 0) {ow : Nat} (how : ow < l.length) : -1 ≤ toldTo a1 l (ow : Int) l.length := by
  have hz := office_zero ho
  rw [le_toldTo ho how (Nat.le_refl _)]
  exact ⟨by omega, fun i hi hne hp => by omega⟩
theorem toldTo_le {a0 a1 : Int} {l : List Int} (ho : officeN a0 a1 l = 0) {ow : Nat} (how : ow < l.length) : toldTo a1 l (ow : Int) l.length ≤ a1 := ((le_toldTo ho how (Nat.le_refl _)).1 (Int.le_refl _)).1
theorem refTold_loop {a0 a1 : Int} {l : List Int} (ho : officeN a0 a1 l = 0) (ow : Nat) (how : ow < l.length) : ∀ (m : Nat) (t : Int), t + m = toldTo a1 l (ow : Int) l.length → -1 ≤ t → ∀ k, m + 21000 < k →
    peaveyref01_Told.l0 k (ow : Int) t a0 a1 l = some (toldTo a1 l (ow : Int) l.length, 0)
  | 0, t, ht, h1, k + 1, hk => by
    have hz := office_zero ho
    have hle := toldTo_le ho how
    rw [peaveyref01_Told.l0]
    by_cases c : t < a1
    · rw [if_pos c, w64 (by omega), refIsTold_is ho ow how _ (by omega), Option.bind_some, if_neg, show t = toldTo a1 l (ow : Int) l.length by omega]
      intro h
      have := (told_le ho how (by omega)).1 ((told_iff ho ow how _).1 h)
      omega
    · rw [if_neg c, show t = toldTo a1 l (ow : Int) l.length by omega]
  | m + 1, t, ht, h1, k + 1, hk => by
    have hz := office_zero ho
    have hle := toldTo_le ho how
    rw [peaveyref01_Told.l0, if_pos (by omega), w64 (by omega), refIsTold_is ho ow how _ (by omega), Option.bind_some, if_pos ((told_iff ho ow how _).2 ((told_le ho how (by omega)).2 (by omega)))]
    exact refTold_loop ho ow how m (t + 1) (by omega) (by omega) k (by omega)
theorem refTold_is (a0 a1 : Int) (l : List Int) (x : Int) {k : Nat} (hk : 22000 ≤ k) : peaveyref01_Told.f k a0 a1 l x = mark_Told.f a0 a1 l x := by
  unfold peaveyref01_Told.f mark_Told.f
  rw [refOffice_is a0 a1 l (by omega), Option.bind_some]
  by_cases ho : officeN a0 a1 l = 0
  · have hz := office_zero ho
    rw [if_pos ho, if_neg (fun h => h ho), refOwner_is, Option.bind_some]
    cases hx : outB 0 ((l.length : Int) - 1) x
    · have hin := out_in hx
      obtain ⟨ow, rfl⟩ := Int.eq_ofNat_of_zero_le hin.1
      have how : ow < l.length := by omega
      have hge := toldTo_ge ho how
      have hle := toldTo_le ho how
      rw [Bool.not_false, if_pos rfl, if_neg (by simp)]
      exact refTold_loop ho ow how (toldTo a1 l (ow : Int) l.length + 1).toNat (-1) (by omega) (by omega) k (by omega)
    · rw [Bool.not_true, if_neg (by simp)]; rfl
  · rw [if_neg ho, if_pos ho]; rfl
end Go.Proofs.Ytbhcchhhpmlpmaa.Hand

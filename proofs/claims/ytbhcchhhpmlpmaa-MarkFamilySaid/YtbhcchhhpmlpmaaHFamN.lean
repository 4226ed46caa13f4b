/- The search for a greatest family, in plain lists: it ends at the first one of the greatest ones. -/
import Derived.Test.YtbhcchhhpmlpmaaMC
namespace Go.Proofs.Ytbhcchhhpmlpmaa.Hand
set_option linter.unusedVariables false
set_option linter.unusedSimpArgs false
open Go.RowKit

/-- increasing indexes from one on -/
def Incr (n : Nat) : Nat → List Nat → Prop
  | _, [] => True
  | i, x :: t => i ≤ x ∧ x < n ∧ Incr n (x + 1) t
theorem incr_lower {n : Nat} {i j : Nat} (h : i ≤ j) : ∀ {t : List Nat}, Incr n j t → Incr n i t
  | [], _ => trivial
  | _ :: _, ⟨h1, h2, h3⟩ => ⟨by omega, h2, h3⟩
theorem incr_ge {n : Nat} : ∀ {t : List Nat} {i : Nat}, Incr n i t → ∀ x ∈ t, i ≤ x ∧ x < n
  | [], _, _, x, hx => by cases hx
  | y :: t, i, ⟨h1, h2, h3⟩, x, hx => by
    rcases List.mem_cons.1 hx with rfl | hx
    · exact ⟨h1, h2⟩
    · have := incr_ge h3 x hx
      omega
theorem incr_length {n : Nat} : ∀ {t : List Nat} {i : Nat}, i ≤ n → Incr n i t → t.length ≤ n - i
  | [], _, _, _ => by simp
  | y :: t, i, hi, ⟨h1, h2, h3⟩ => by
    have := incr_length (by omega) h3
    rw [List.length_cons]; omega
/-- does a set come before another one: the least index that is in one of both alone is in the first -/
def Lo (a b : List Nat) : Prop := ∃ j, j ∈ a ∧ j ∉ b ∧ ∀ i, i < j → (i ∈ a ↔ i ∈ b)
theorem lo_asymm {a b : List Nat} (h : Lo a b) : ¬ Lo b a := by
  obtain ⟨j, h1, h2, h3⟩ := h
  rintro ⟨k, g1, g2, g3⟩
  rcases Nat.lt_trichotomy j k with c | c | c
  · exact h2 ((g3 j c).2 h1)
  · subst c; exact h2 g1
  · exact g2 ((h3 k c).2 g1)
theorem lo_cons {n i : Nat} {a b : List Nat} (ha : Incr n (i + 1) a) (hb : Incr n (i + 1) b) (h : Lo a b) : Lo (i :: a) (i :: b) := by
  obtain ⟨j, h1, h2, h3⟩ := h
  have hj := incr_ge ha j h1
  refine ⟨j, List.mem_cons_of_mem _ h1, ?_, fun k hk => ?_⟩
  · rw [List.mem_cons]; rintro (e | e)
    · omega
    · exact h2 e
  · rw [List.mem_cons, List.mem_cons, h3 k hk]
theorem lo_first {n i : Nat} {a b : List Nat} (ha : Incr n (i + 1) a) (hb : Incr n (i + 1) b) : Lo (i :: a) b := by
  refine ⟨i, List.mem_cons_self, fun h => ?_, fun k hk => ?_⟩
  · have := incr_ge hb i h; omega
  · constructor
    · intro h
      rcases List.mem_cons.1 h with rfl | h
      · omega
      · have := incr_ge ha k h; omega
    · intro h; have := incr_ge hb k h; omega
/-- the indexes as they stand in a slice -/
def ints (t : List Nat) : List Int := t.map fun x : Nat => (x : Int)
theorem ints_cons (x : Nat) (t : List Nat) : ints (x :: t) = [(x : Int)] ++ ints t := rfl
theorem ints_length (t : List Nat) : (ints t).length = t.length := by simp [ints]
theorem ints_inj {a b : List Nat} (h : ints a = ints b) : a = b := by
  unfold ints at h
  exact List.map_inj_right (fun x y h => by omega) |>.1 h
/-- may indexes be joined, one after the other? -/
def goodE (J : List Int → Nat → Bool) : List Int → List Nat → Bool
  | _, [] => true
  | b, x :: t => J b x && goodE J (b ++ [(x : Int)]) t

/-- the first one of the greatest: of sets that go on from what has begun -/
def FirstG (J : List Int → Nat → Bool) (n i : Nat) (begun : List Int) (t : List Nat) : Prop :=
  Incr n i t ∧ goodE J begun t = true ∧ ∀ u, Incr n i u → goodE J begun u = true → u.length < t.length ∨ (u.length = t.length ∧ (u = t ∨ Lo t u))
/-- what the search comes to: the best one so far, or a greater one -/
def Outcome (J : List Int → Nat → Bool) (n i : Nat) (begun best r : List Int) : Prop :=
  (r = best ∧ ∀ u, Incr n i u → goodE J begun u = true → begun.length + u.length ≤ best.length) ∨
  (∃ t, r = begun ++ ints t ∧ best.length < r.length ∧ FirstG J n i begun t)
theorem incr_split {n i : Nat} {u : List Nat} (h : Incr n i u) : Incr n (i + 1) u ∨ ∃ t, u = i :: t ∧ Incr n (i + 1) t := by
  match u, h with
  | [], _ => exact .inl trivial
  | x :: t, ⟨h1, h2, h3⟩ =>
    by_cases e : x = i
    · subst e; exact .inr ⟨t, rfl, h3⟩
    · exact .inl ⟨by omega, h2, h3⟩
theorem famLoop_out (J : List Int → Nat → Bool) (n : Nat) : ∀ (f i : Nat) (begun best : List Int), f = n - i → i ≤ n → begun.length ≤ best.length → Outcome J n i begun best (famLoop J n f begun best i) := by
  intro f
  induction f with
  | zero =>
    intro i begun best hf hi hb
    left
    refine ⟨rfl, fun u hu _ => ?_⟩
    have := incr_length hi hu
    omega
  | succ f ih =>
    intro i begun best hf hi hb
    by_cases hc : i < n ∧ best.length + i < begun.length + n
    · have hskip : ∀ best' : List Int, begun.length ≤ best'.length → Outcome J n (i + 1) begun best' (famLoop J n f begun best' (i + 1)) := fun best' h => ih (i + 1) begun best' (by omega) (by omega) h
      rw [famLoop, if_pos hc]
      cases hJ : J begun i
      · rw [if_neg (by simp)]
        have hno : ∀ u, Incr n i u → goodE J begun u = true → Incr n (i + 1) u := by
          intro u hu hg
          rcases incr_split hu with h | ⟨t, rfl, ht⟩
          · exact h
          · rw [goodE, hJ] at hg; simp at hg
        rcases hskip best hb with ⟨h1, h2⟩ | ⟨t, h1, h2, h3, h4, h5⟩
        · exact .inl ⟨h1, fun u hu hg => h2 u (hno u hu hg) hg⟩
        · exact .inr ⟨t, h1, h2, incr_lower (by omega) h3, h4, fun u hu hg => h5 u (hno u hu hg) hg⟩
      · rw [if_pos rfl]
        obtain ⟨r1, hr1⟩ : ∃ r1, r1 = famLoop J n f (begun ++ [(i : Int)]) (begun ++ [(i : Int)]) (i + 1) := ⟨_, rfl⟩
        have h0 := ih (i + 1) (begun ++ [(i : Int)]) (begun ++ [(i : Int)]) (by omega) (by omega) (Nat.le_refl _)
        rw [← hr1] at h0 ⊢
        -- the greatest with i
        obtain ⟨t1, e1, f1⟩ : ∃ t1, r1 = (begun ++ [(i : Int)]) ++ ints t1 ∧ FirstG J n (i + 1) (begun ++ [(i : Int)]) t1 := by
          rcases h0 with ⟨h1, h2⟩ | ⟨t, h1, _, h3⟩
          · refine ⟨[], by rw [h1]; simp [ints], trivial, rfl, fun u hu hg => ?_⟩
            have := h2 u hu hg
            have hz : u.length = 0 := by omega
            exact .inr ⟨hz, .inl (List.length_eq_zero_iff.1 hz)⟩
          · exact ⟨t, h1, h3⟩
        obtain ⟨g1, g2, g3⟩ := f1
        have l1 : r1.length = begun.length + 1 + t1.length := by rw [e1, List.length_append, List.length_append, ints_length]; rfl
        have good1 : goodE J begun (i :: t1) = true := by rw [goodE, hJ, g2]; rfl
        obtain ⟨best', hb'⟩ : ∃ b, b = (if best.length < r1.length then r1 else best) := ⟨_, rfl⟩
        rw [← hb']
        have hbl : best.length ≤ best'.length ∧ r1.length ≤ best'.length := by rw [hb']; split <;> omega
        rcases hskip best' (by omega) with ⟨h1, h2⟩ | ⟨t, h1, h2, h3, h4, h5⟩
        · by_cases hlt : best.length < r1.length
          · rw [if_pos hlt] at hb'
            refine .inr ⟨i :: t1, by rw [h1, hb', e1, ints_cons, List.append_assoc], by rw [h1, hb']; exact hlt, ⟨by omega, by omega, g1⟩, good1, fun u hu hg => ?_⟩
            rcases incr_split hu with h | ⟨t, rfl, ht⟩
            · have := h2 u h hg
              rw [hb', l1] at this
              rw [List.length_cons]
              by_cases e : u.length = t1.length + 1
              · exact .inr ⟨e, .inr (lo_first g1 h)⟩
              · exact .inl (by omega)
            · rw [goodE, hJ, Bool.true_and] at hg
              rw [List.length_cons, List.length_cons]
              rcases g3 t ht hg with c | ⟨c1, rfl | c2⟩
              · exact .inl (by omega)
              · exact .inr ⟨rfl, .inl rfl⟩
              · exact .inr ⟨by omega, .inr (lo_cons g1 ht c2)⟩
          · rw [if_neg hlt] at hb'
            refine .inl ⟨by rw [h1, hb'], fun u hu hg => ?_⟩
            rcases incr_split hu with h | ⟨t, rfl, ht⟩
            · have := h2 u h hg
              rw [hb'] at this; exact this
            · rw [goodE, hJ, Bool.true_and] at hg
              rw [List.length_cons]
              rcases g3 t ht hg with c | ⟨c1, _⟩ <;> omega
        · have lt : (famLoop J n f begun best' (i + 1)).length = begun.length + t.length := by rw [h1, List.length_append, ints_length]
          refine .inr ⟨t, h1, by omega, incr_lower (by omega) h3, h4, fun u hu hg => ?_⟩
          rcases incr_split hu with h | ⟨v, rfl, hv⟩
          · exact h5 u h hg
          · rw [goodE, hJ, Bool.true_and] at hg
            rw [List.length_cons]
            rcases g3 v hv hg with c | ⟨c1, _⟩ <;> exact .inl (by omega)
    · rw [famLoop, if_neg hc]
      refine .inl ⟨rfl, fun u hu _ => ?_⟩
      have := incr_length hi hu
      by_cases e : i < n
      · have : ¬ best.length + i < begun.length + n := fun h => hc ⟨e, h⟩
        omega
      · omega
/-- the family that the search comes to -/
theorem fam_first (J : List Int → Nat → Bool) (n : Nat) : ∃ t, famLoop J n n [] [] 0 = ints t ∧ FirstG J n 0 [] t := by
  rcases famLoop_out J n n 0 [] [] (by omega) (by omega) (Nat.le_refl _) with ⟨h1, h2⟩ | ⟨t, h1, _, h3⟩
  · refine ⟨[], by rw [h1]; rfl, trivial, rfl, fun u hu hg => ?_⟩
    have := h2 u hu hg
    have hz : u.length = 0 := by simpa using this
    exact .inr ⟨hz, .inl (List.length_eq_zero_iff.1 hz)⟩
  · exact ⟨t, by rw [h1]; simp, h3⟩
theorem first_only {J : List Int → Nat → Bool} {n i : Nat} {b : List Int} {s t : List Nat} (hs : FirstG J n i b s) (ht : FirstG J n i b t) : s = t := by
  obtain ⟨s1, s2, s3⟩ := hs
  obtain ⟨t1, t2, t3⟩ := ht
  rcases s3 t t1 t2 with c | ⟨c1, c2 | c2⟩
  · rcases t3 s s1 s2 with d | ⟨d1, _⟩ <;> omega
  · exact c2.symm
  · rcases t3 s s1 s2 with d | ⟨d1, d2 | d2⟩
    · omega
    · exact d2
    · exact absurd c2 (lo_asymm d2)
end Go.Proofs.Ytbhcchhhpmlpmaa.Hand

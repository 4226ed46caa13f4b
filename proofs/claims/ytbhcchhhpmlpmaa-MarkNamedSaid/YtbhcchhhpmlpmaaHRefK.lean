/- The reference's Keep, in plain numbers: the sets come in their order. -/
import Derived.Test.YtbhcchhhpmlpmaaHRefA
import Derived.Test.YtbhcchhhpmlpmaaMC
namespace Go.Proofs.Ytbhcchhhpmlpmaa.Hand
set_option linter.unusedVariables false
set_option linter.unusedSimpArgs false
open Go.RowKit Go.Proofs.YtbhcchhhpmlpmaaW.PrintWords Go.Proofs.YtbhcchhhpmlpmaaW.PrintLast Go.Proofs.YtbhcchhhpmlpmaaW.PrintMore Go.Proofs.Ytbhcchhhpmlpmaa.PrA Go.Proofs.Ytbhcchhhpmlpmaa.PrR Go.Proofs.Ytbhcchhhpmlpmaa.PrU

/-- does a set come before another one: the least stroke that is in one of them alone is in the first one? -/
def firstFrom (a b : Nat) : Nat → Nat → Bool
  | 0, _ => false
  | m + 1, i => if a.testBit i = b.testBit i then firstFrom a b m (i + 1) else a.testBit i
def firstN (a b : Nat) : Bool := firstFrom a b 10 0
def Fst (a b : Nat) : Prop := ∃ j, j < 10 ∧ a.testBit j = true ∧ b.testBit j = false ∧ ∀ t, t < j → a.testBit t = b.testBit t
theorem firstFrom_iff {a b : Nat} : ∀ {m i : Nat}, firstFrom a b m i = true ↔ ∃ j, i ≤ j ∧ j < i + m ∧ a.testBit j = true ∧ b.testBit j = false ∧ ∀ t, i ≤ t → t < j → a.testBit t = b.testBit t
  | 0, i => by
    constructor
    · intro h; cases h
    · rintro ⟨j, h1, h2, _⟩; omega
  | m + 1, i => by
    rw [firstFrom]
    by_cases e : a.testBit i = b.testBit i
    · rw [if_pos e, firstFrom_iff]
      constructor
      · rintro ⟨j, h1, h2, h3, h4, h5⟩
        refine ⟨j, by omega, by omega, h3, h4, fun t ht1 ht2 => ?_⟩
        by_cases et : t = i
        · rw [et]; exact e
        · exact h5 t (by omega) ht2
      · rintro ⟨j, h1, h2, h3, h4, h5⟩
        by_cases ej : j = i
        · subst ej; rw [h3, h4] at e; cases e
        · exact ⟨j, by omega, by omega, h3, h4, fun t ht1 ht2 => h5 t (by omega) ht2⟩
    · rw [if_neg e]
      constructor
      · intro h
        refine ⟨i, by omega, by omega, h, ?_, fun t h1 h2 => by omega⟩
        rw [h] at e
        cases hb : b.testBit i
        · rfl
        · rw [hb] at e; exact absurd rfl e
      · rintro ⟨j, h1, h2, h3, h4, h5⟩
        by_cases ej : j = i
        · subst ej; exact h3
        · exact absurd (h5 i (by omega) (by omega)) e
theorem first_iff {a b : Nat} : firstN a b = true ↔ Fst a b := by
  unfold firstN Fst
  rw [firstFrom_iff]
  constructor
  · rintro ⟨j, _, h2, h3, h4, h5⟩
    exact ⟨j, by omega, h3, h4, fun t ht => h5 t (by omega) ht⟩
  · rintro ⟨j, h2, h3, h4, h5⟩
    exact ⟨j, by omega, by omega, h3, h4, fun t _ ht => h5 t ht⟩
theorem fst_asymm {a b : Nat} (h : Fst a b) : ¬ Fst b a := by
  obtain ⟨j, _, h1, h2, h3⟩ := h
  rintro ⟨t, _, g1, g2, g3⟩
  rcases Nat.lt_trichotomy j t with c | c | c
  · have := g3 j c; rw [h1, h2] at this; cases this
  · subst c; rw [h1] at g2; cases g2
  · have := h3 t c; rw [g1, g2] at this; cases this
theorem fst_total {a b : Nat} (ha : a < 1024) (hb : b < 1024) (hne : a ≠ b) : Fst a b ∨ Fst b a := by
  have key : ∀ n, (∀ t, t < n → a.testBit t = b.testBit t) ∨ ∃ j, j < n ∧ a.testBit j ≠ b.testBit j ∧ ∀ t, t < j → a.testBit t = b.testBit t := by
    intro n
    induction n with
    | zero => exact .inl fun t ht => by omega
    | succ n ih =>
      rcases ih with h | ⟨j, h1, h2, h3⟩
      · by_cases e : a.testBit n = b.testBit n
        · refine .inl fun t ht => ?_
          by_cases et : t = n
          · rw [et]; exact e
          · exact h t (by omega)
        · exact .inr ⟨n, by omega, e, h⟩
      · exact .inr ⟨j, by omega, h2, h3⟩
  rcases key 10 with h | ⟨j, h1, h2, h3⟩
  · exact absurd (Nat.eq_of_testBit_eq fun i => by
      rcases Nat.lt_or_ge i 10 with g | g
      · exact h i g
      · rw [big_bit a i ha g, big_bit b i hb g]) hne
  · cases hb' : b.testBit j
    · have ha' : a.testBit j = true := by
        cases h4 : a.testBit j
        · rw [h4, hb'] at h2; exact absurd rfl h2
        · rfl
      exact .inl ⟨j, h1, ha', hb', h3⟩
    · have ha' : a.testBit j = false := by
        cases h4 : a.testBit j
        · rfl
        · rw [h4, hb'] at h2; exact absurd rfl h2
      exact .inr ⟨j, h1, hb', ha', fun t ht => (h3 t ht).symm⟩
/-- fewer strokes, or as many, and before -/
def Bef (a b : Nat) : Prop := pc a < pc b ∨ (pc a = pc b ∧ Fst a b)
theorem bef_asymm {a b : Nat} (h : Bef a b) : ¬ Bef b a := by
  rintro (g | ⟨g1, g2⟩)
  · rcases h with h | ⟨h1, _⟩ <;> omega
  · rcases h with h | ⟨_, h2⟩
    · omega
    · exact fst_asymm h2 g2
theorem bef_total {a b : Nat} (ha : a < 1024) (hb : b < 1024) (hne : a ≠ b) : Bef a b ∨ Bef b a := by
  rcases Nat.lt_trichotomy (pc a) (pc b) with h | h | h
  · exact .inl (.inl h)
  · rcases fst_total ha hb hne with g | g
    · exact .inl (.inr ⟨h, g⟩)
    · exact .inr (.inr ⟨h.symm, g⟩)
  · exact .inr (.inl h)

/-- the strokes of a set behind one -/
theorem cut_bit (m i j : Nat) : (m >>> (i + 1) <<< (i + 1)).testBit j = (decide (i < j) && m.testBit j) := by
  rw [Nat.testBit_shiftLeft, Nat.testBit_shiftRight]
  by_cases h : i < j
  · have h1 : j ≥ i + 1 := by omega
    rw [decide_eq_true h, decide_eq_true h1]
    congr 2; omega
  · have h1 : ¬ j ≥ i + 1 := by omega
    rw [decide_eq_false h, decide_eq_false h1]; rfl
theorem one_bit (i j : Nat) : (1 <<< i).testBit j = decide (i = j) := by
  rw [Nat.one_shiftLeft, Nat.testBit_two_pow]
theorem mem_pickTo {f : Nat → Nat → List Nat} {m set x : Nat} : ∀ {n : Nat}, x ∈ pickTo f m set n ↔ ∃ i, i < n ∧ m.testBit i = true ∧ x ∈ f (m >>> (i + 1) <<< (i + 1)) (set ||| 1 <<< i)
  | 0 => by simp [pickTo]
  | n + 1 => by
    rw [pickTo, List.mem_append, mem_pickTo]
    constructor
    · rintro (⟨i, h1, h2, h3⟩ | h)
      · exact ⟨i, by omega, h2, h3⟩
      · rw [pickAt] at h
        split at h
        · rename_i hb; exact ⟨n, by omega, hb, h⟩
        · cases h
    · rintro ⟨i, h1, h2, h3⟩
      by_cases e : i = n
      · subst e; right; rw [pickAt, if_pos h2]; exact h3
      · left; exact ⟨i, by omega, h2, h3⟩
theorem pc_one {i y : Nat} (hi : i < 10) (hy : y.testBit i = false) : pc (1 <<< i ||| y) = pc y + 1 := by
  have h1 := countP_split (fun j => (1 <<< i ||| y).testBit j) (fun j => decide (i = j)) (List.range 10)
  rw [pc_count, h1]
  have e1 : (List.range 10).countP (fun j => (1 <<< i ||| y).testBit j && decide (i = j)) = 1 := by
    have : (List.range 10).countP (fun j => (1 <<< i ||| y).testBit j && decide (i = j)) = (List.range 10).countP (fun j => j == i) := List.countP_congr fun j _ => by
      rw [Nat.testBit_or, one_bit]
      by_cases e : i = j
      · simp [e]
      · simp [e, Ne.symm e]
    rw [this]
    have : i = 0 ∨ i = 1 ∨ i = 2 ∨ i = 3 ∨ i = 4 ∨ i = 5 ∨ i = 6 ∨ i = 7 ∨ i = 8 ∨ i = 9 := by omega
    rcases this with rfl | rfl | rfl | rfl | rfl | rfl | rfl | rfl | rfl | rfl <;> rfl
  have e2 : (List.range 10).countP (fun j => (1 <<< i ||| y).testBit j && !decide (i = j)) = pc y := by
    rw [pc_count]
    refine List.countP_congr fun j _ => ?_
    rw [Nat.testBit_or, one_bit]
    by_cases e : i = j
    · subst e; simp [hy]
    · simp [e]
  rw [e1, e2]; omega
theorem sub_iff {y m : Nat} : y &&& m = y ↔ ∀ j, y.testBit j = true → m.testBit j = true := ⟨fun h _ hj => sub_bit h hj, sub_of_bits⟩
/-- the sets that have so many strokes of a mark more than one has -/
theorem mem_pickL : ∀ {k m set x : Nat}, m < 1024 → (x ∈ pickL k m set ↔ ∃ y, y &&& m = y ∧ pc y = k ∧ x = set ||| y)
  | 0, m, set, x, hm => by
    rw [pickL, List.mem_singleton]
    constructor
    · rintro rfl; exact ⟨0, by simp, rfl, by simp⟩
    · rintro ⟨y, h1, h2, rfl⟩
      have hy : y < 1024 := by rw [← h1, Nat.and_comm]; exact and_lt hm
      rw [pc_zero hy h2]; simp
  | k + 1, m, set, x, hm => by
    have hm' : ∀ i, m >>> (i + 1) <<< (i + 1) < 1024 := fun i => Nat.lt_of_le_of_lt (cut_le m i) hm
    rw [pickL, mem_pickTo]
    constructor
    · rintro ⟨i, hi, hb, hx⟩
      obtain ⟨y, h1, h2, rfl⟩ := (mem_pickL (hm' i)).1 hx
      have hyi : y.testBit i = false := by
        cases h : y.testBit i
        · rfl
        · have := sub_bit h1 h
          rw [cut_bit] at this; simp at this
      refine ⟨1 <<< i ||| y, sub_of_bits fun j hj => ?_, by rw [pc_one hi hyi, h2], by rw [Nat.or_assoc]⟩
      rw [Nat.testBit_or, one_bit, Bool.or_eq_true] at hj
      rcases hj with hj | hj
      · rw [← of_decide_eq_true hj]; exact hb
      · have := sub_bit h1 hj
        rw [cut_bit, Bool.and_eq_true] at this
        exact this.2
    · rintro ⟨y, h1, h2, rfl⟩
      have hy : y < 1024 := by rw [← h1, Nat.and_comm]; exact and_lt hm
      have key : ∀ n, (∀ t, t < n → y.testBit t = false) ∨ ∃ i, i < n ∧ y.testBit i = true ∧ ∀ t, t < i → y.testBit t = false := by
        intro n
        induction n with
        | zero => exact .inl fun t ht => by omega
        | succ n ih =>
          rcases ih with h | ⟨i, g1, g2, g3⟩
          · cases e : y.testBit n
            · refine .inl fun t ht => ?_
              by_cases et : t = n
              · rw [et]; exact e
              · exact h t (by omega)
            · exact .inr ⟨n, by omega, e, h⟩
          · exact .inr ⟨i, by omega, g2, g3⟩
      rcases key 10 with h | ⟨i, hi, hyi, hlow⟩
      · exfalso
        have : y = 0 := by
          apply Nat.eq_of_testBit_eq
          intro i
          rw [Nat.zero_testBit]
          rcases Nat.lt_or_ge i 10 with g | g
          · exact h i g
          · exact big_bit y i hy g
        rw [this] at h2
        have : pc 0 = 0 := rfl
        omega
      · have hmi := sub_bit h1 hyi
        obtain ⟨z, hz⟩ : ∃ z, z = y >>> (i + 1) <<< (i + 1) := ⟨_, rfl⟩
        have hzi : z.testBit i = false := by rw [hz, cut_bit]; simp
        have hyz : 1 <<< i ||| z = y := by
          apply Nat.eq_of_testBit_eq
          intro j
          rw [Nat.testBit_or, one_bit, hz, cut_bit]
          rcases Nat.lt_trichotomy i j with g | g | g
          · have : ¬ i = j := by omega
            simp [this, g]
          · subst g; simp [hyi]
          · have h3 : ¬ i = j := by omega
            have h4 : ¬ i < j := by omega
            rw [decide_eq_false h3, decide_eq_false h4, hlow j g]; rfl
        refine ⟨i, hi, hmi, (mem_pickL (hm' i)).2 ⟨z, sub_of_bits fun j hj => ?_, ?_, by rw [Nat.or_assoc, hyz]⟩⟩
        · rw [hz, cut_bit, Bool.and_eq_true] at hj
          rw [cut_bit, hj.1, sub_bit h1 hj.2]; rfl
        · have := pc_one hi hzi
          rw [hyz, h2] at this
          omega
theorem mem_setsTo {m x : Nat} (hm : m < 1024) : ∀ {n : Nat}, x ∈ setsTo m n ↔ x &&& m = x ∧ pc x < n
  | 0 => by simp [setsTo]
  | n + 1 => by
    rw [setsTo, List.mem_append, mem_setsTo hm, mem_pickL hm]
    constructor
    · rintro (⟨h1, h2⟩ | ⟨y, h1, h2, rfl⟩)
      · exact ⟨h1, by omega⟩
      · rw [Nat.zero_or]; exact ⟨h1, by omega⟩
    · rintro ⟨h1, h2⟩
      by_cases e : pc x = n
      · right; exact ⟨x, h1, e, by rw [Nat.zero_or]⟩
      · left; exact ⟨h1, by omega⟩
/-- all sets of a mark's strokes, and no others -/
theorem mem_setsL {m x : Nat} (hm : m < 1024) : x ∈ setsL m ↔ x &&& m = x := by
  rw [setsL, mem_setsTo hm]
  constructor
  · exact fun h => h.1
  · intro h
    refine ⟨h, ?_⟩
    have := pc_mono (a := x) (b := m) fun i _ hi => sub_bit h hi
    omega

theorem pair_pickTo {f : Nat → Nat → List Nat} {m set : Nat} {R : Nat → Nat → Prop} (h1 : ∀ i, i < 10 → m.testBit i = true → (f (m >>> (i + 1) <<< (i + 1)) (set ||| 1 <<< i)).Pairwise R)
    (h2 : ∀ i j, i < j → j < 10 → m.testBit i = true → m.testBit j = true → ∀ x ∈ f (m >>> (i + 1) <<< (i + 1)) (set ||| 1 <<< i), ∀ y ∈ f (m >>> (j + 1) <<< (j + 1)) (set ||| 1 <<< j), R x y) : ∀ n, n ≤ 10 → (pickTo f m set n).Pairwise R
  | 0, _ => by simp [pickTo]
  | n + 1, hn => by
    rw [pickTo, List.pairwise_append]
    refine ⟨pair_pickTo h1 h2 n (by omega), ?_, ?_⟩
    · rw [pickAt]
      split
      · rename_i hb; exact h1 n (by omega) hb
      · simp
    · intro x hx y hy
      obtain ⟨i, hi, hbi, hxi⟩ := mem_pickTo.1 hx
      rw [pickAt] at hy
      split at hy
      · rename_i hb; exact h2 i n hi (by omega) hbi hb x hxi y hy
      · cases hy
theorem pair_pickL : ∀ {k m set : Nat}, m < 1024 → (∀ j, m.testBit j = true → set.testBit j = false) → (pickL k m set).Pairwise Fst
  | 0, m, set, _, _ => by simp [pickL]
  | k + 1, m, set, hm, hd => by
    have hm' : ∀ i, m >>> (i + 1) <<< (i + 1) < 1024 := fun i => Nat.lt_of_le_of_lt (cut_le m i) hm
    rw [pickL]
    refine pair_pickTo (fun i hi hb => pair_pickL (hm' i) fun j hj => ?_) (fun i j hij hj hbi hbj x hx y hy => ?_) 10 (Nat.le_refl _)
    · rw [cut_bit, Bool.and_eq_true] at hj
      have h1 : ¬ i = j := by have := of_decide_eq_true hj.1; omega
      rw [Nat.testBit_or, one_bit, hd j hj.2, decide_eq_false h1]; rfl
    · obtain ⟨u, u1, u2, rfl⟩ := (mem_pickL (hm' i)).1 hx
      obtain ⟨v, v1, v2, rfl⟩ := (mem_pickL (hm' j)).1 hy
      have hu : ∀ t, t ≤ i → u.testBit t = false := fun t ht => by
        cases h : u.testBit t
        · rfl
        · have := sub_bit u1 h
          rw [cut_bit, Bool.and_eq_true] at this
          have := of_decide_eq_true this.1
          omega
      have hv : ∀ t, t ≤ j → v.testBit t = false := fun t ht => by
        cases h : v.testBit t
        · rfl
        · have := sub_bit v1 h
          rw [cut_bit, Bool.and_eq_true] at this
          have := of_decide_eq_true this.1
          omega
      refine ⟨i, by omega, ?_, ?_, fun t ht => ?_⟩
      · rw [Nat.testBit_or, Nat.testBit_or, one_bit, decide_eq_true rfl]; simp
      · rw [Nat.testBit_or, Nat.testBit_or, one_bit, hd i hbi, hv i (by omega), decide_eq_false (by omega)]; rfl
      · rw [Nat.testBit_or, Nat.testBit_or, Nat.testBit_or, Nat.testBit_or, one_bit, one_bit, hu t (by omega), hv t (by omega), decide_eq_false (by omega), decide_eq_false (by omega)]
theorem pair_setsTo {m : Nat} (hm : m < 1024) : ∀ n, (setsTo m n).Pairwise Bef
  | 0 => by simp [setsTo]
  | n + 1 => by
    rw [setsTo, List.pairwise_append]
    refine ⟨pair_setsTo hm n, ?_, ?_⟩
    · have hp := pair_pickL (k := n) (set := 0) hm (fun j _ => Nat.zero_testBit j)
      refine hp.imp_of_mem fun {a b} ha hb hab => .inr ⟨?_, hab⟩
      obtain ⟨u, _, h2, rfl⟩ := (mem_pickL hm).1 ha
      obtain ⟨v, _, h4, rfl⟩ := (mem_pickL hm).1 hb
      rw [Nat.zero_or, Nat.zero_or, h2, h4]
    · intro x hx y hy
      have h1 := ((mem_setsTo hm).1 hx).2
      obtain ⟨v, _, h4, rfl⟩ := (mem_pickL hm).1 hy
      rw [Nat.zero_or]
      exact .inl (by omega)
/-- they come in their order -/
theorem pair_setsL {m : Nat} (hm : m < 1024) : (setsL m).Pairwise Bef := pair_setsTo hm _
theorem find_first {L : List Nat} {p : Nat → Bool} (hL : L.Pairwise Bef) {s : Nat} (h : L.find? p = some s) : s ∈ L ∧ p s = true ∧ ∀ u ∈ L, p u = true → u = s ∨ Bef s u := by
  induction L with
  | nil => cases h
  | cons x L ih =>
    rw [List.find?_cons] at h
    rw [List.pairwise_cons] at hL
    cases hx : p x with
    | true =>
      rw [hx] at h
      obtain rfl := Option.some.inj h
      exact ⟨List.mem_cons_self, hx, fun u hu _ => by
        rcases List.mem_cons.1 hu with e | e
        · exact .inl e
        · exact .inr (hL.1 u e)⟩
    | false =>
      rw [hx] at h
      obtain ⟨h1, h2, h3⟩ := ih hL.2 h
      exact ⟨List.mem_cons_of_mem _ h1, h2, fun u hu hpu => by
        rcases List.mem_cons.1 hu with e | e
        · subst e; rw [hx] at hpu; cases hpu
        · exact h3 u e hpu⟩

theorem shr_bit {a i : Nat} (ha : a < 1024) (hi : i < 10) : Go.bits .and .i64 (shr .i64 (a : Int) (i : Int)) 1 = if a.testBit i then 1 else 0 := by
  have e : shr .i64 (a : Int) (i : Int) = ((a / 2 ^ i : Nat) : Int) := by
    unfold shr
    rw [Int.toNat_natCast, Nat.min_eq_left (by show i ≤ 64; omega)]
    simp
  have hl : a / 2 ^ i < 1024 := Nat.lt_of_le_of_lt (Nat.div_le_self _ _) ha
  rw [e, show (1 : Int) = ((1 : Nat) : Int) from rfl]
  have : Go.bits .and .i64 ((a / 2 ^ i : Nat) : Int) ((1 : Nat) : Int) = ((a / 2 ^ i &&& 1 : Nat) : Int) := i64_and_nat _ _ hl (by decide)
  rw [this, Nat.and_one_is_mod, Nat.testBit_eq_decide_div_mod_eq]
  by_cases h : a / 2 ^ i % 2 = 1
  · rw [h]; rfl
  · rw [show a / 2 ^ i % 2 = 0 by omega]; rfl
theorem refFirst_loop {a b : Nat} (ha : a < 1024) (hb : b < 1024) : ∀ (m i : Nat), i + m = 10 → ∀ k, m < k → peaveyref01_First.l0 k (a : Int) (b : Int) (i : Int) = some (firstFrom a b m i)
  | 0, i, hi, k + 1, _ => by rw [peaveyref01_First.l0, if_neg (by omega)]; rfl
  | m + 1, i, hi, k + 1, hk => by
    rw [peaveyref01_First.l0, if_pos (by omega), if_pos (by omega), shr_bit ha (by omega), shr_bit hb (by omega), wsucc i (by omega), refFirst_loop ha hb m (i + 1) (by omega) k (by omega), firstFrom]
    cases h1 : a.testBit i <;> cases h2 : b.testBit i <;> rfl
theorem refFirst_is {a b : Nat} (ha : a < 1024) (hb : b < 1024) {k : Nat} (hk : 12 ≤ k) : peaveyref01_First.f k (a : Int) (b : Int) = some (firstN a b) := refFirst_loop ha hb 10 0 (by omega) k (by omega)

/-- do strokes tell an owner? (of its own mark) -/
def tellN (l : List Int) (ow s : Nat) : Bool := decide (s &&& mk l ow = s) && allFrom (fun i => decide (i = ow) || !decide (s &&& mk l i = s)) l.length 0
theorem refTells_loop {a0 a1 : Int} {l : List Int} (ho : officeN a0 a1 l = 0) (ow s : Nat) (hs : s < 1024) : ∀ (m i : Nat), i + m = l.length → ∀ k, m < k → peaveyref01_Tells.l0 k (ow : Int) (s : Int) (i : Int) a0 a1 l = some (allFrom (fun i => decide (i = ow) || !decide (s &&& mk l i = s)) m i)
  | 0, i, hi, k + 1, _ => by rw [peaveyref01_Tells.l0, if_neg (by omega)]; rfl
  | m + 1, i, hi, k + 1, hk => by
    have hil : i < l.length := by omega
    have h12 := (office_zero ho).2.2.2.2.1
    have ih := refTells_loop ho ow s hs m (i + 1) (by omega) k (by omega)
    rw [peaveyref01_Tells.l0, if_pos (by omega), wsucc i (by omega), allFrom]
    by_cases e : i = ow
    · rw [if_pos (by omega), ih, decide_eq_true e]; rfl
    · rw [if_neg (by omega), if_pos (by omega), decide_eq_false e, ih]
      unfold peaveyref01_Within.f
      rw [mk_rd ho hil, show Go.bits .and .i64 (s : Int) (mk l i : Int) = ((s &&& mk l i : Nat) : Int) from i64_and_nat s _ hs (mk_lt ho hil), Option.bind_some]
      by_cases h : s &&& mk l i = s
      · rw [if_pos (by rw [h]; simp), decide_eq_true h]; rfl
      · rw [if_neg (by simp; omega), decide_eq_false h]; rfl
theorem refTells_is {a0 a1 : Int} {l : List Int} (ho : officeN a0 a1 l = 0) (ow s : Nat) (how : ow < l.length) (hs : s < 1024) {k : Nat} (hk : 20 ≤ k) : peaveyref01_Tells.f k a0 a1 l (ow : Int) (s : Int) = some (tellN l ow s) := by
  have h12 := (office_zero ho).2.2.2.2.1
  unfold peaveyref01_Tells.f peaveyref01_Within.f
  rw [if_pos (by omega), if_pos (by omega), mk_rd ho how, show Go.bits .and .i64 (s : Int) (mk l ow : Int) = ((s &&& mk l ow : Nat) : Int) from i64_and_nat s _ hs (mk_lt ho how), Option.bind_some, tellN]
  by_cases h : s &&& mk l ow = s
  · have := refTells_loop ho ow s hs l.length 0 (by omega) k (by omega)
    rw [if_pos (by rw [h]; simp), decide_eq_true h]
    exact this
  · rw [if_neg (by simp; omega), decide_eq_false h]; rfl
theorem tellsB_is {a0 a1 : Int} {l : List Int} (ho : officeN a0 a1 l = 0) (ow s : Nat) (how : ow < l.length) (hs : s &&& mk l ow = s) : tellsB l (ow : Int) (s : Int) = tellN l ow s := by
  have hsl : s < 1024 := by rw [← hs, Nat.and_comm]; exact and_lt (mk_lt ho how)
  have key : ∀ i, i < l.length → tellC l (ow : Int) (s : Int) i = !(decide (i = ow) || !decide (s &&& mk l i = s)) := by
    intro i hi
    rw [tellC, mk_rd ho hi, i64_andNot_nat s _ hsl (mk_lt ho hi)]
    by_cases e : i = ow
    · subst e; simp
    · have e1 : ((i : Int) != (ow : Int)) = true := by simp; omega
      rw [e1, decide_eq_false e, Bool.true_and, Bool.false_or, Bool.not_not]
      by_cases h : s &&& mk l i = s
      · rw [dif_of_sub (mk_lt ho hi) h, decide_eq_true h]; rfl
      · rw [decide_eq_false h]
        have : dif s (mk l i) ≠ 0 := fun h0 => h (dif_zero (mk_lt ho hi) hsl h0)
        simp; omega
  rw [tellsB, tellN, decide_eq_true hs, Bool.true_and, Bool.eq_iff_iff, allFrom_iff]
  constructor
  · intro h i _ hi
    have h1 : (List.range l.length).any (tellC l (ow : Int) (s : Int)) = false := by simpa using h
    have := List.any_eq_false.1 h1 i (List.mem_range.2 (by omega))
    rw [key i (by omega)] at this
    cases hh : (decide (i = ow) || !decide (s &&& mk l i = s))
    · rw [hh] at this; simp at this
    · rfl
  · intro h
    have : (List.range l.length).any (tellC l (ow : Int) (s : Int)) = false := by
      rw [List.any_eq_false]
      intro i hi
      rw [key i (List.mem_range.1 hi), h i (by omega) (by have := List.mem_range.1 hi; omega)]; simp
    rw [this]; rfl

theorem keep_step {a0 a1 : Int} {l : List Int} (ho : officeN a0 a1 l = 0) (ow : Nat) (how : ow < l.length) (best : Int) (w k : Nat) (hw : w ≤ mk l ow) (hk : 20 ≤ k) :
    peaveyref01_Keep.l0 (k + 1) (ow : Int) best (w : Int) a0 a1 l = if tellN l ow w then (if best < 0 then peaveyref01_Keep.l0 k (ow : Int) (w : Int) ((w + 1 : Nat) : Int) a0 a1 l else
      ((peaveyref01_Size.f k best).bind fun t123 => (if (pc w : Int) < t123 then peaveyref01_Keep.l0 k (ow : Int) (w : Int) ((w + 1 : Nat) : Int) a0 a1 l else (if (pc w : Int) = t123 then ((peaveyref01_First.f k (w : Int) best).bind fun t126 => (if t126 = true then peaveyref01_Keep.l0 k (ow : Int) (w : Int) ((w + 1 : Nat) : Int) a0 a1 l else peaveyref01_Keep.l0 k (ow : Int) best ((w + 1 : Nat) : Int) a0 a1 l)) else peaveyref01_Keep.l0 k (ow : Int) best ((w + 1 : Nat) : Int) a0 a1 l)))) else peaveyref01_Keep.l0 k (ow : Int) best ((w + 1 : Nat) : Int) a0 a1 l := by
  have hlt := mk_lt ho how
  rw [peaveyref01_Keep.l0, if_pos (by omega), if_pos (by omega), mk_rd ho how, if_pos (by omega), refTells_is ho ow w how (by omega) hk, refSize_is w (by omega) (by omega), wsucc w (by omega)]
  simp only [Option.bind_some]
  cases tellN l ow w
  · simp
  · simp only [if_true]
    by_cases hb : best < 0
    · rw [if_pos hb, if_pos hb]
    · rw [if_neg hb, if_neg hb]
      cases hz : peaveyref01_Size.f k best with
      | none => rfl
      | some z => simp only [Option.bind_some]
theorem keep_last (ow : Nat) {a0 a1 : Int} {l : List Int} (ho : officeN a0 a1 l = 0) (how : ow < l.length) (best : Int) (w k : Nat) (hw : mk l ow < w) : peaveyref01_Keep.l0 (k + 1) (ow : Int) best (w : Int) a0 a1 l = if best < 0 then some (0, 17) else some (best, 0) := by
  rw [peaveyref01_Keep.l0, if_pos (by omega), if_pos (by omega), mk_rd ho how, if_neg (by omega)]
/-- what the loop does with one more set -/
theorem keep_next {a0 a1 : Int} {l : List Int} (ho : officeN a0 a1 l = 0) (ow : Nat) (how : ow < l.length) (best w k : Nat) (hw : w ≤ mk l ow) (hb : best < 1024) (hk : 20 ≤ k) (ht : tellN l ow w = true) :
    (Bef w best → peaveyref01_Keep.l0 (k + 1) (ow : Int) (best : Int) (w : Int) a0 a1 l = peaveyref01_Keep.l0 k (ow : Int) (w : Int) ((w + 1 : Nat) : Int) a0 a1 l) ∧
    (¬ Bef w best → peaveyref01_Keep.l0 (k + 1) (ow : Int) (best : Int) (w : Int) a0 a1 l = peaveyref01_Keep.l0 k (ow : Int) (best : Int) ((w + 1 : Nat) : Int) a0 a1 l) := by
  have hlt := mk_lt ho how
  rw [keep_step ho ow how _ w k hw hk, ht, if_pos rfl, if_neg (by omega), refSize_is best hb (by omega), Option.bind_some, refFirst_is (show w < 1024 by omega) hb (by omega), Option.bind_some]
  constructor
  · rintro (h | ⟨h1, h2⟩)
    · rw [if_pos (by omega)]
    · rw [if_neg (by omega), if_pos (by omega), if_pos (first_iff.2 h2)]
  · intro h
    rw [if_neg (fun h' => h (.inl (by omega)))]
    by_cases e : pc w = pc best
    · rw [if_pos (by omega), if_neg (fun h' => h (.inr ⟨e, first_iff.1 h'⟩))]
    · rw [if_neg (by omega)]
theorem keep_past {a0 a1 : Int} {l : List Int} (ho : officeN a0 a1 l = 0) (ow : Nat) (how : ow < l.length) (s : Nat) (hs : s < 1024) (hmin : ∀ u, tellN l ow u = true → u = s ∨ Bef s u) : ∀ (m w : Nat), w + m = mk l ow + 1 → s < w → ∀ k, m + 20 < k →
    peaveyref01_Keep.l0 k (ow : Int) (s : Int) (w : Int) a0 a1 l = some ((s : Int), 0)
  | 0, w, hw, _, k + 1, _ => by rw [keep_last ow ho how _ w k (by omega), if_neg (by omega)]
  | m + 1, w, hw, hsw, k + 1, hk => by
    have ih := keep_past ho ow how s hs hmin m (w + 1) (by omega) (by omega) k (by omega)
    cases ht : tellN l ow w
    · rw [keep_step ho ow how _ w k (by omega) (by omega), ht, if_neg (by simp)]; exact ih
    · rw [(keep_next ho ow how s w k (by omega) hs (by omega) ht).2 fun hb => ?_]
      · exact ih
      · rcases hmin w ht with e | e
        · omega
        · exact bef_asymm e hb
theorem keep_find {a0 a1 : Int} {l : List Int} (ho : officeN a0 a1 l = 0) (ow : Nat) (how : ow < l.length) (s : Nat) (hs : tellN l ow s = true) (hsl : s ≤ mk l ow) (hmin : ∀ u, tellN l ow u = true → u = s ∨ Bef s u) : ∀ (m w : Nat) (best : Int), w + m = mk l ow + 1 → w ≤ s →
    (best = -1 ∨ ∃ n : Nat, best = (n : Int) ∧ n < 1024 ∧ tellN l ow n = true ∧ n ≠ s) → ∀ k, m + 20 < k → peaveyref01_Keep.l0 k (ow : Int) best (w : Int) a0 a1 l = some ((s : Int), 0)
  | 0, w, best, hw, hle, _, _, _ => by omega
  | m + 1, w, best, hw, hle, hbest, k + 1, hk => by
    have hlt := mk_lt ho how
    by_cases e : w = s
    · subst e
      have ih := keep_past ho ow how w (by omega) hmin m (w + 1) (by omega) (by omega) k (by omega)
      rcases hbest with rfl | ⟨n, rfl, hn, htn, hne⟩
      · rw [keep_step ho ow how _ w k (by omega) (by omega), hs, if_pos rfl, if_pos (by omega)]; exact ih
      · rw [(keep_next ho ow how n w k (by omega) hn (by omega) hs).1 ((hmin n htn).resolve_left hne)]; exact ih
    · have ih := fun best' hb' => keep_find ho ow how s hs hsl hmin m (w + 1) best' (by omega) (by omega) hb' k (by omega)
      cases ht : tellN l ow w
      · rw [keep_step ho ow how _ w k (by omega) (by omega), ht, if_neg (by simp)]; exact ih best hbest
      · have h1 := ih (w : Int) (.inr ⟨w, rfl, by omega, ht, e⟩)
        rcases hbest with rfl | ⟨n, rfl, hn, htn, hne⟩
        · rw [keep_step ho ow how _ w k (by omega) (by omega), ht, if_pos rfl, if_pos (by omega)]; exact h1
        · by_cases hb : Bef w n
          · rw [(keep_next ho ow how n w k (by omega) hn (by omega) ht).1 hb]; exact h1
          · rw [(keep_next ho ow how n w k (by omega) hn (by omega) ht).2 hb]; exact ih _ (.inr ⟨n, rfl, hn, htn, hne⟩)
theorem keep_none {a0 a1 : Int} {l : List Int} (ho : officeN a0 a1 l = 0) (ow : Nat) (how : ow < l.length) (hno : ∀ u, u ≤ mk l ow → tellN l ow u = false) : ∀ (m w : Nat), w + m = mk l ow + 1 → ∀ k, m + 20 < k →
    peaveyref01_Keep.l0 k (ow : Int) (-1) (w : Int) a0 a1 l = some (0, 17)
  | 0, w, hw, k + 1, _ => by rw [keep_last ow ho how _ w k (by omega), if_pos (by omega)]
  | m + 1, w, hw, k + 1, hk => by
    rw [keep_step ho ow how _ w k (by omega) (by omega), hno w (by omega), if_neg (by simp)]
    exact keep_none ho ow how hno m (w + 1) (by omega) k (by omega)
theorem tellN_sub {l : List Int} {ow s : Nat} (h : tellN l ow s = true) : s &&& mk l ow = s := by
  rw [tellN, Bool.and_eq_true] at h
  exact of_decide_eq_true h.1
theorem find_congr' {α : Type} {p q : α → Bool} : ∀ {L : List α}, (∀ x ∈ L, p x = q x) → L.find? p = L.find? q
  | [], _ => rfl
  | x :: L, h => by
    rw [List.find?_cons, List.find?_cons, h x List.mem_cons_self, find_congr' fun y hy => h y (List.mem_cons_of_mem _ hy)]
/-- the first set that tells an owner, in these words -/
def keepN (l : List Int) (ow : Nat) : Option Nat := (setsL (mk l ow)).find? (tellN l ow)
theorem keepV_is {a0 a1 : Int} {l : List Int} (ho : officeN a0 a1 l = 0) (ow : Nat) (how : ow < l.length) : keepV l (ow : Int) = match keepN l ow with | some s => ((s : Int), 0) | none => (0, 17) := by
  unfold keepV keepN
  have : (setsL (rd l (ow : Int)).toNat).find? (fun s : Nat => tellsB l (ow : Int) (s : Int)) = (setsL (mk l ow)).find? (tellN l ow) :=
    find_congr' fun s hs => tellsB_is ho ow s how ((mem_setsL (mk_lt ho how)).1 hs)
  rw [this]
  cases (setsL (mk l ow)).find? (tellN l ow) <;> rfl
theorem keepN_some {a0 a1 : Int} {l : List Int} (ho : officeN a0 a1 l = 0) {ow s : Nat} (how : ow < l.length) (h : keepN l ow = some s) : tellN l ow s = true ∧ s ≤ mk l ow ∧ ∀ u, tellN l ow u = true → u = s ∨ Bef s u := by
  have hm := mk_lt ho how
  obtain ⟨h1, h2, h3⟩ := find_first (pair_setsL hm) h
  have hs := (mem_setsL hm).1 h1
  exact ⟨h2, by rw [← hs]; exact Nat.and_le_right, fun u hu => h3 u ((mem_setsL hm).2 (tellN_sub hu)) hu⟩
theorem keepN_none {a0 a1 : Int} {l : List Int} (ho : officeN a0 a1 l = 0) {ow : Nat} (how : ow < l.length) (h : keepN l ow = none) (u : Nat) : tellN l ow u = false := by
  cases hu : tellN l ow u
  · rfl
  · have := List.find?_eq_none.1 h u ((mem_setsL (mk_lt ho how)).2 (tellN_sub hu))
    rw [hu] at this; simp at this
theorem refKeep_is (a0 a1 : Int) (l : List Int) (x : Int) {k : Nat} (hk : 1100 ≤ k) : peaveyref01_Keep.f k a0 a1 l x = mark_Keep.f a0 a1 l x := by
  unfold peaveyref01_Keep.f mark_Keep.f
  rw [refOffice_is a0 a1 l (by omega), Option.bind_some]
  by_cases ho : officeN a0 a1 l = 0
  · rw [if_pos ho, if_neg (fun h => h ho), refOwner_is, Option.bind_some]
    cases hx : outB 0 ((l.length : Int) - 1) x
    · have hin := out_in hx
      obtain ⟨ow, rfl⟩ := Int.eq_ofNat_of_zero_le hin.1
      have how : ow < l.length := by omega
      have hm := mk_lt ho how
      rw [Bool.not_false, if_pos rfl, if_neg (by simp), keepV_is ho ow how]
      cases hkn : keepN l ow with
      | none => exact keep_none ho ow how (fun u _ => keepN_none ho how hkn u) (mk l ow + 1) 0 (by omega) k (by omega)
      | some s =>
        obtain ⟨h1, h2, h3⟩ := keepN_some ho how hkn
        exact keep_find ho ow how s h1 h2 h3 (mk l ow + 1) 0 (-1) (by omega) (by omega) (.inl rfl) k (by omega)
    · rw [Bool.not_true, if_neg (by simp)]; rfl
  · rw [if_neg ho, if_pos ho]; rfl
end Go.Proofs.Ytbhcchhhpmlpmaa.Hand

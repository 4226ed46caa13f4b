/- Texts of the claim, joined: HRunP, HRunC, HRunX, HRunN, HRunV. -/
import Derived.Test.YtmfonbonfhngnaaGF
import Derived.Test.YtmfonbonfhngnaaPrR3
import Derived.Test.YtmfonbonfhngnaaGD
/- Runs are judged alike by the program and by the reference. Condition: lists of at most 1000 logs. -/
namespace Go.Proofs.Ytmfonbonfhngnaa.Hand
set_option linter.unusedVariables false
set_option linter.unusedSimpArgs false
open Go.RowKit Go.Proofs.YtmfonbonfhngnaaW.PrintWords Go.Proofs.YtmfonbonfhngnaaW.PrintLast Go.Proofs.Ytmfonbonfhngnaa.PrA Go.Proofs.Ytmfonbonfhngnaa.PrR
set_option linter.unusedVariables false
set_option linter.unusedSimpArgs false

/-- a strictly increasing list of logs -/
def listB (n : Nat) : Int → List Int → Bool
  | _, [] => true
  | lo, i :: r => decide (lo ≤ i) && decide (i < n) && listB n (i + 1) r
/-- each is wanted before the one ahead of it -/
def fallB (l : List Int) : List Int → Bool
  | [] => true
  | a :: r => match r with
    | [] => true
    | b :: _ => decide (rd l b < rd l a) && fallB l r
theorem listB_mem {n : Nat} : ∀ {x : List Int} {lo : Int}, listB n lo x = true → ∀ i ∈ x, lo ≤ i ∧ i < n
  | [], _, _, i, h => by cases h
  | a :: r, lo, h, i, hi => by
    simp only [listB, Bool.and_eq_true, decide_eq_true_eq] at h
    rcases List.mem_cons.1 hi with rfl | hi
    · exact h.1
    · have := listB_mem h.2 i hi
      omega
theorem rd_mem {x : List Int} {j : Nat} (h : j < x.length) : rd x (j : Nat) ∈ x := by
  rw [rd_get x h]; exact List.getElem_mem h
theorem listed_go {l x : List Int} (hl : l.length ≤ 30) (hx : x.length ≤ 1000) (d : Nat) : ∀ (j k : Nat) (lo : Int), j + d = x.length → d < k → 0 ≤ lo → gap_listed.l0 k l lo x x.length j = some (listB l.length lo (x.drop j)) := by
  induction d with
  | zero =>
    intro j k lo hj hk hlo
    obtain ⟨k, rfl⟩ : ∃ q, k = q + 1 := ⟨k - 1, by omega⟩
    rw [gap_listed.l0, if_neg (by omega), List.drop_eq_nil_of_le (by omega)]; rfl
  | succ d ih =>
    intro j k lo hj hk hlo
    obtain ⟨k, rfl⟩ : ∃ q, k = q + 1 := ⟨k - 1, by omega⟩
    have hlt : j < x.length := by omega
    rw [gap_listed.l0, if_pos (by omega), if_pos (by omega), if_pos (by omega), List.drop_eq_getElem_cons hlt, ← rd_get x hlt, IntWalk.wrap64_in ((l.length : Int) - 1) ⟨by omega, by omega⟩, gap_within.f, Option.bind_some, listB]
    by_cases h1 : lo ≤ rd x (j : Nat)
    · by_cases h2 : rd x (j : Nat) < l.length
      · have : (!List.any [rd x (j : Nat)] (outB lo ((l.length : Int) - 1))) = true := by
          simp [outB]; omega
        rw [if_pos this, wrap_succ (i := j) (by omega)]
        rw [IntWalk.wrap64_in (rd x (j : Nat) + 1) ⟨by omega, by omega⟩, ih (j + 1) k _ (by omega) (by omega) (by omega)]
        simp [h1, h2]
      · have : ¬ (!List.any [rd x (j : Nat)] (outB lo ((l.length : Int) - 1))) = true := by
          simp [outB]; omega
        rw [if_neg this]; simp [h1, h2]
    · have : ¬ (!List.any [rd x (j : Nat)] (outB lo ((l.length : Int) - 1))) = true := by
        simp [outB]; omega
      rw [if_neg this]; simp [h1]
theorem listed_is {l x : List Int} (hl : l.length ≤ 30) (hx : x.length ≤ 1000) (k : Nat) (hk : 1001 ≤ k) : gap_listed.f k l x = some (listB l.length 0 x) := by
  unfold gap_listed.f
  have := listed_go hl hx x.length 0 k 0 (by omega) (by omega) (Int.le_refl _)
  rw [List.drop_zero] at this
  exact this
theorem fallB_cons (l : List Int) (a b : Int) (r : List Int) : fallB l (a :: b :: r) = (decide (rd l b < rd l a) && fallB l (b :: r)) := rfl
theorem falls_go {l x : List Int} (hm : ∀ i ∈ x, 0 ≤ i ∧ i < l.length) (hx : x.length ≤ 1000) (d : Nat) : ∀ (j k : Nat), j + 1 + d = x.length → d < k → gap_falls.l0 k l x (j + 1 : Nat) = some (fallB l (x.drop j)) := by
  induction d with
  | zero =>
    intro j k hj hk
    obtain ⟨k, rfl⟩ : ∃ q, k = q + 1 := ⟨k - 1, by omega⟩
    have hlt : j < x.length := by omega
    rw [gap_falls.l0, if_neg (by omega), List.drop_eq_getElem_cons hlt, List.drop_eq_nil_of_le (by omega)]; rfl
  | succ d ih =>
    intro j k hj hk
    obtain ⟨k, rfl⟩ : ∃ q, k = q + 1 := ⟨k - 1, by omega⟩
    have hlt : j < x.length := by omega
    have hlt2 : j + 1 < x.length := by omega
    have m1 := hm _ (rd_mem hlt)
    have m2 := hm _ (rd_mem hlt2)
    rw [gap_falls.l0, if_pos (by omega), if_pos (by omega), if_pos m2.1, if_pos m2.2, show wrap64 (((j + 1 : Nat) : Int) - 1) = (j : Nat) by rw [IntWalk.wrap64_in _ ⟨by omega, by omega⟩]; omega,
      if_pos (by omega), if_pos (by omega), if_pos m1.1, if_pos m1.2, List.drop_eq_getElem_cons hlt, List.drop_eq_getElem_cons hlt2, ← rd_get x hlt, ← rd_get x hlt2, fallB_cons]
    by_cases h : rd l (rd x (j + 1 : Nat)) < rd l (rd x (j : Nat))
    · rw [if_neg (by omega), wrap_succ (by omega), ih (j + 1) k (by omega) (by omega), List.drop_eq_getElem_cons hlt2, ← rd_get x hlt2, decide_eq_true h, Bool.true_and]
    · rw [if_pos (by omega), decide_eq_false h, Bool.false_and]
      first | done | rfl
theorem falls_is {l x : List Int} (hm : ∀ i ∈ x, 0 ≤ i ∧ i < l.length) (hx : x.length ≤ 1000) (k : Nat) (hk : 1001 ≤ k) : gap_falls.f k l x = some (fallB l x) := by
  unfold gap_falls.f
  by_cases h : x.length = 0
  · obtain rfl : x = [] := List.eq_nil_of_length_eq_zero h
    obtain ⟨k, rfl⟩ : ∃ q, k = q + 1 := ⟨k - 1, by omega⟩
    rw [gap_falls.l0, if_neg (by simp)]; rfl
  · have := falls_go hm hx (x.length - 1) 0 k (by omega) (by omega)
    rw [List.drop_zero] at this
    exact this
/-- what the reference says of a list -/
def risV (l x : List Int) : Int := if listB l.length 0 x then (if fallB l x then 0 else 16) else 3
theorem rising_falls {l x : List Int} (hm : ∀ i ∈ x, 0 ≤ i ∧ i < l.length) (hx : x.length ≤ 1000) (d : Nat) : ∀ (j k : Nat), j + 1 + d = x.length → d < k → peaveyref03_rising.l1 k l x (j + 1 : Nat) = some (if fallB l (x.drop j) then 0 else 16) := by
  induction d with
  | zero =>
    intro j k hj hk
    obtain ⟨k, rfl⟩ : ∃ q, k = q + 1 := ⟨k - 1, by omega⟩
    have hlt : j < x.length := by omega
    rw [peaveyref03_rising.l1, if_neg (by omega), List.drop_eq_getElem_cons hlt, List.drop_eq_nil_of_le (by omega)]; rfl
  | succ d ih =>
    intro j k hj hk
    obtain ⟨k, rfl⟩ : ∃ q, k = q + 1 := ⟨k - 1, by omega⟩
    have hlt : j < x.length := by omega
    have hlt2 : j + 1 < x.length := by omega
    have m1 := hm _ (rd_mem hlt)
    have m2 := hm _ (rd_mem hlt2)
    rw [peaveyref03_rising.l1, if_pos (by omega), if_pos (by omega), if_pos m2.1, if_pos m2.2, show wrap64 (((j + 1 : Nat) : Int) - 1) = (j : Nat) by rw [IntWalk.wrap64_in _ ⟨by omega, by omega⟩]; omega,
      if_pos (by omega), if_pos (by omega), if_pos m1.1, if_pos m1.2, List.drop_eq_getElem_cons hlt, List.drop_eq_getElem_cons hlt2, ← rd_get x hlt, ← rd_get x hlt2, fallB_cons]
    by_cases h : rd l (rd x (j + 1 : Nat)) < rd l (rd x (j : Nat))
    · rw [if_neg (by omega), wrap_succ (by omega), ih (j + 1) k (by omega) (by omega), List.drop_eq_getElem_cons hlt2, ← rd_get x hlt2, decide_eq_true h, Bool.true_and]
    · rw [if_pos (by omega), decide_eq_false h, Bool.false_and]
      first | done | rfl
theorem rising_go {l x : List Int} (hx : x.length ≤ 1000) (d : Nat) : ∀ (j k : Nat), j + d = x.length → 1001 + d < k → (∀ i, i < j → 0 ≤ rd x (i : Nat) ∧ rd x (i : Nat) < l.length) →
    peaveyref03_rising.l0 k l x j = some (if listB l.length (if j = 0 then 0 else rd x (j - 1 : Nat) + 1) (x.drop j) then (if fallB l x then 0 else 16) else 3) := by
  induction d with
  | zero =>
    intro j k hj hk hm
    obtain ⟨k, rfl⟩ : ∃ q, k = q + 1 := ⟨k - 1, by omega⟩
    rw [peaveyref03_rising.l0, if_neg (by omega), List.drop_eq_nil_of_le (by omega)]
    simp only [listB, if_true]
    by_cases h : x.length = 0
    · obtain rfl : x = [] := List.eq_nil_of_length_eq_zero h
      obtain ⟨k, rfl⟩ : ∃ q, k = q + 1 := ⟨k - 1, by omega⟩
      rw [peaveyref03_rising.l1, if_neg (by simp)]; rfl
    · have := rising_falls (l := l) (x := x) (fun i hi => by
        obtain ⟨q, hq, rfl⟩ := List.getElem_of_mem hi
        have := hm q (by omega)
        rwa [rd_get x hq] at this) hx (x.length - 1) 0 k (by omega) (by omega)
      rw [List.drop_zero] at this
      exact this
  | succ d ih =>
    intro j k hj hk hm
    obtain ⟨k, rfl⟩ : ∃ q, k = q + 1 := ⟨k - 1, by omega⟩
    have hlt : j < x.length := by omega
    have step : 0 ≤ rd x (j : Nat) → rd x (j : Nat) < l.length → peaveyref03_rising.l0 k l x (wrap64 ((j : Int) + 1)) = some (if listB l.length (rd x (j : Nat) + 1) (x.drop (j + 1)) then (if fallB l x then 0 else 16) else 3) := by
      intro h0 h1
      rw [wrap_succ (by omega), ih (j + 1) k (by omega) (by omega) (fun i hi => by
        by_cases e : i = j
        · subst e; exact ⟨h0, h1⟩
        · exact hm i (by omega)), if_neg (show ¬ j + 1 = 0 by omega), Nat.add_sub_cancel]
    rw [peaveyref03_rising.l0, if_pos (by omega), if_pos (by omega), List.drop_eq_getElem_cons hlt, ← rd_get x hlt, listB]
    by_cases h0 : rd x (j : Nat) < 0
    · rw [if_pos h0]
      have : ¬ (if j = 0 then 0 else rd x (j - 1 : Nat) + 1) ≤ rd x (j : Nat) := by
        by_cases e : j = 0
        · rw [if_pos e]; omega
        · rw [if_neg e]
          have := hm (j - 1) (by omega)
          omega
      simp [this]
    · rw [if_neg h0]
      by_cases h1 : rd x (j : Nat) < l.length
      · rw [if_neg (by omega)]
        by_cases e : j = 0
        · subst e
          rw [if_neg (by omega), step (by omega) h1, if_pos rfl]
          have h0' : 0 ≤ rd x ((0 : Nat) : Int) := by omega
          simp only [h0', h1, decide_true, Bool.true_and]
        · rw [if_pos (by omega), show wrap64 ((j : Int) - 1) = (j - 1 : Nat) by rw [IntWalk.wrap64_in _ ⟨by omega, by omega⟩]; omega, if_pos (by omega), if_pos (by omega), if_neg e]
          by_cases h2 : rd x (j : Nat) ≤ rd x (j - 1 : Nat)
          · rw [if_pos h2]
            have : ¬ rd x (j - 1 : Nat) + 1 ≤ rd x (j : Nat) := by omega
            simp [this]
          · rw [if_neg h2, step (by omega) h1]
            have h2' : rd x (j - 1 : Nat) + 1 ≤ rd x (j : Nat) := by omega
            simp only [h2', h1, decide_true, Bool.true_and]
      · rw [if_pos (by omega)]
        have : ¬ rd x (j : Nat) < l.length := h1
        simp [this]
theorem rising_is {l x : List Int} (hx : x.length ≤ 1000) (k : Nat) (hk : 2002 < k) : peaveyref03_rising.f k l x = some (risV l x) := by
  unfold peaveyref03_rising.f risV
  have := rising_go (l := l) hx x.length 0 k (by omega) (by omega) (fun i hi => absurd hi (Nat.not_lt_zero _))
  rw [List.drop_zero, if_pos rfl] at this
  exact this
/-- what is said of a run -/
def crV (l x : List Int) : Int := if rowE l ≠ 0 then rowE l else risV l x
theorem gapRun_is {l x : List Int} (hx : x.length ≤ 1000) (k : Nat) (hk : 1001 ≤ k) : gap_CheckRun.f k l x = some (crV l x) := by
  unfold gap_CheckRun.f crV risV
  rw [rowE_is, Option.bind_some]
  by_cases h : rowE l = 0
  · obtain ⟨hl, _⟩ := row_zero h
    rw [if_pos h, if_neg (show ¬ rowE l ≠ 0 by omega), listed_is hl hx k hk, Option.bind_some]
    by_cases h1 : listB l.length 0 x = true
    · rw [if_pos h1, if_pos h1, falls_is (listB_mem h1) hx k hk, Option.bind_some]
      by_cases h2 : fallB l x = true
      · rw [if_pos h2, if_pos h2]
      · rw [if_neg h2, if_neg h2]
    · rw [if_neg h1, if_neg h1]
  · rw [if_neg h, if_pos h]
theorem refRun_is {l x : List Int} (hx : x.length ≤ 1000) (k : Nat) (hk : 2002 < k) : peaveyref03_CheckRun.f k l x = some (crV l x) := by
  unfold peaveyref03_CheckRun.f crV
  rw [refRow_is l k (by omega), Option.bind_some]
  by_cases h : rowE l = 0
  · rw [if_pos h, if_neg (show ¬ rowE l ≠ 0 by omega), rising_is hx k hk, Option.bind_some]
  · rw [if_neg h, if_pos h, Option.bind_some]

/-! ### lists of runs -/
/-- the bound of runs -/
def bndR (m : Int) (xs : List (List Int)) : Int := sumI (xs.map fun x => min m (x.length : Int))
/-- how often a log is in runs -/
def inR (xs : List (List Int)) (i : Nat) : Nat := xs.flatten.count (i : Int)
def ckrV (l : List Int) (m : Int) (xs : List (List Int)) : Int × Int :=
  if openE l m ≠ 0 then (0, openE l m) else if 30 < xs.length then (0, 6) else if xs.any (fun x => !listB l.length 0 x) then (0, 3) else if xs.any (fun x => !fallB l x) then (0, 16)
  else if (List.range l.length).any (fun i => inR xs i != 1) then (0, 14) else (bndR m xs, 0)
theorem anyO_is {p : List Int → Option Bool} {b : List Int → Bool} : ∀ {xs : List (List Int)}, (∀ x ∈ xs, p x = some (b x)) → anyO p xs = some (xs.any fun x => !b x)
  | [], _ => rfl
  | x :: xs, h => by
    rw [anyO, h x List.mem_cons_self, Option.bind_some, List.any_cons]
    cases b x
    · rfl
    · rw [if_pos rfl, anyO_is fun y hy => h y (List.mem_cons_of_mem _ hy)]; rfl
theorem cntL_is : ∀ (x cn : List Int), cn.length = 30 → (∀ i ∈ x, 0 ≤ i ∧ i < 30) → (∀ i, i < 30 → 0 ≤ rd cn (i : Nat) ∧ rd cn (i : Nat) + x.length < 1000000) → ∃ r, cntL x cn = some r ∧ r.length = 30 ∧ ∀ i, i < 30 → rd r (i : Nat) = rd cn (i : Nat) + x.count (i : Int)
  | [], cn, hl, _, _ => ⟨cn, rfl, hl, fun i _ => by simp⟩
  | a :: x, cn, hl, hm, hb => by
    have ha := hm a List.mem_cons_self
    obtain ⟨n, rfl⟩ : ∃ n : Nat, a = n := ⟨a.toNat, by omega⟩
    have hbn := hb n (by omega)
    simp only [List.length_cons] at hbn
    rw [cntL, if_pos ⟨ha.1, ha.2, hbn.1, by omega⟩, Int.toNat_natCast]
    obtain ⟨r, h1, h2, h3⟩ := cntL_is x (cn.set n (rd cn (n : Nat) + 1)) (by rw [List.length_set]; exact hl) (fun i hi => hm i (List.mem_cons_of_mem _ hi)) (fun i hi => by
      have := hb i hi
      simp only [List.length_cons] at this
      by_cases e : i = n
      · subst e; rw [rd_set_same cn (by omega)]; omega
      · rw [rd_set_other cn e]; omega)
    refine ⟨r, h1, h2, fun i hi => ?_⟩
    rw [h3 i hi, List.count_cons]
    by_cases e : i = n
    · subst e
      rw [rd_set_same cn (by omega)]; simp; omega
    · rw [rd_set_other cn e]
      have : ((n : Int) == (i : Int)) = false := beq_eq_false_iff_ne.2 (by omega)
      simp [this]
theorem cntR_is (m : Int) (hm : 0 ≤ m ∧ m ≤ 30) : ∀ (xs : List (List Int)) (cn : List Int) (b : Int), cn.length = 30 → (∀ x ∈ xs, x.length ≤ 1000 ∧ ∀ i ∈ x, 0 ≤ i ∧ i < 30) → (∀ i, i < 30 → 0 ≤ rd cn (i : Nat) ∧ rd cn (i : Nat) + xs.length * 1000 < 1000000) → 0 ≤ b ∧ b + xs.length * 30 < 100000 →
    ∃ r, cntR m xs cn b = some (r, b + bndR m xs) ∧ r.length = 30 ∧ ∀ i, i < 30 → rd r (i : Nat) = rd cn (i : Nat) + xs.flatten.count (i : Int)
  | [], cn, b, hl, _, _, _ => ⟨cn, by rw [cntR, show bndR m [] = 0 from rfl, Int.add_zero], hl, fun i _ => by simp⟩
  | x :: xs, cn, b, hl, hx, hc, hb => by
    have hx0 := hx x List.mem_cons_self
    simp only [List.length_cons] at hc hb
    obtain ⟨cn', h1, h2, h3⟩ := cntL_is x cn hl hx0.2 (fun i hi => by have := hc i hi; omega)
    have hcl : ∀ i : Nat, x.count (i : Int) ≤ x.length := fun i => List.count_le_length
    rw [cntR, h1, Option.bind_some, if_pos (by omega)]
    obtain ⟨r, g1, g2, g3⟩ := cntR_is m hm xs cn' (b + min m x.length) h2 (fun y hy => hx y (List.mem_cons_of_mem _ hy)) (fun i hi => by
      have := hc i hi
      have := hcl i
      rw [h3 i hi]; omega) (by omega)
    refine ⟨r, ?_, g2, fun i hi => ?_⟩
    · rw [g1]
      have : bndR m (x :: xs) = min m (x.length : Int) + bndR m xs := by
        have key : ∀ (L : List Int) (a : Int), L.foldl (· + ·) a = a + L.foldl (· + ·) 0 := by
          intro L
          induction L with
          | nil => intro a; simp
          | cons y L ih => intro a; rw [List.foldl_cons, List.foldl_cons, ih (a + y), ih (0 + y)]; omega
        unfold bndR sumI
        rw [List.map_cons, List.foldl_cons, key]; omega
      rw [this]
      congr 2; omega
    · rw [g3 i hi, h3 i hi, List.flatten_cons, List.count_append]; omega
end Go.Proofs.Ytmfonbonfhngnaa.Hand

/- Lists of runs are judged alike by the program and by the reference; no turning takes more logs than their bound. Condition: lists of at most 1000 logs. -/
namespace Go.Proofs.Ytmfonbonfhngnaa.Hand
set_option linter.unusedVariables false
set_option linter.unusedSimpArgs false
open Go.RowKit Go.Proofs.YtmfonbonfhngnaaW.PrintWords Go.Proofs.YtmfonbonfhngnaaW.PrintLast Go.Proofs.Ytmfonbonfhngnaa.PrA Go.Proofs.Ytmfonbonfhngnaa.PrR
set_option linter.unusedVariables false
set_option linter.unusedSimpArgs false

theorem listed_len {n : Nat} : ∀ {x : List Int} {lo : Int}, listB n lo x = true → 0 ≤ lo → (x.length : Int) + lo ≤ max (n : Int) lo
  | [], lo, _, _ => by simp; omega
  | a :: r, lo, h, h0 => by
    simp only [listB, Bool.and_eq_true, decide_eq_true_eq] at h
    have := listed_len h.2 (by omega)
    simp only [List.length_cons]; omega
theorem ones_any (r : List Int) (n : Nat) (hr : r.length = 30) (hn : n ≤ 30) : (r.take n).any no1 = (List.range n).any fun i => rd r (i : Nat) != 1 := by
  have : r.take n = (List.range n).map fun i => rd r (i : Nat) := by
    apply List.ext_getElem
    · simp; omega
    · intro i h1 h2
      simp only [List.getElem_take, List.getElem_map, List.getElem_range]
      rw [rd_get r (by simp at h1; omega)]
  rw [this, List.any_map]
  rfl
theorem any_no {α : Type} {b : α → Bool} {xs : List α} (h : ¬ xs.any (fun x => !b x) = true) : ∀ x ∈ xs, b x = true := by
  intro x hx
  cases hb : b x
  · exact absurd (List.any_eq_true.2 ⟨x, hx, by rw [hb]; rfl⟩) h
  · rfl
theorem gapRuns_ck (l : List Int) (m : Int) (xs : List (List Int)) (hx : ∀ x ∈ xs, x.length ≤ 1000) (k : Nat) (hk : 1001 ≤ k) : gap_CheckRuns.f k l m xs = some (ckrV l m xs) := by
  unfold gap_CheckRuns.f ckrV
  by_cases h : openE l m = 0
  · obtain ⟨g1, g2, g3, g4, g5⟩ := open_zero h
    rw [if_neg (show ¬ openE l m ≠ 0 by omega), if_neg (show ¬ openE l m ≠ 0 by omega)]
    by_cases h6 : 30 < xs.length
    · rw [if_pos h6, if_pos h6]
    · rw [if_neg h6, if_neg h6, anyO_is (b := fun x => listB l.length 0 x) fun x hm => listed_is g2 (hx x hm) k hk, Option.bind_some]
      by_cases h3 : (xs.any fun x => !listB l.length 0 x) = true
      · rw [if_pos h3, if_pos h3]
      · have hL := any_no (b := fun x => listB l.length 0 x) h3
        rw [if_neg h3, if_neg h3, anyO_is (b := fun x => fallB l x) fun x hm => falls_is (listB_mem (hL x hm)) (hx x hm) k hk, Option.bind_some]
        by_cases h16 : (xs.any fun x => !fallB l x) = true
        · rw [if_pos h16, if_pos h16]
        · rw [if_neg h16, if_neg h16]
          obtain ⟨r, r1, r2, r3⟩ := cntR_is m ⟨g3, g4⟩ xs (List.replicate 30 0) 0 (by simp) (fun x hm => ⟨hx x hm, fun i hi => by
            have := listB_mem (hL x hm) i hi; omega⟩) (fun i hi => by rw [rd_zeros]; omega) (by omega)
          rw [r1, Option.bind_some]
          simp only
          have : (r.take l.length).any no1 = (List.range l.length).any fun i => inR xs i != 1 := by
            rw [ones_any r l.length r2 g2]
            have : ∀ L : List Nat, (∀ i ∈ L, i < 30) → L.any (fun i => rd r (i : Nat) != 1) = L.any fun i => inR xs i != 1 := by
              intro L
              induction L with
              | nil => intro _; rfl
              | cons a L ih =>
                intro hL
                rw [List.any_cons, List.any_cons, ih fun i hi => hL i (List.mem_cons_of_mem _ hi), r3 a (hL a List.mem_cons_self), rd_zeros, Int.zero_add]
                congr 1
                unfold inR
                cases hh : (xs.flatten.count (a : Int) != 1)
                · simp only [bne_eq_false_iff_eq] at hh ⊢; omega
                · simp only [bne_iff_ne, ne_eq] at hh ⊢; omega
            exact this _ fun i hi => by have := List.mem_range.1 hi; omega
          rw [this, Int.zero_add]
          split <;> rfl
  · rw [if_pos h, if_pos h]

/-! ### the reference -/
theorem rdL_get {xs : List (List Int)} {i : Nat} (h : i < xs.length) : rd_L1 xs (i : Nat) = xs[i] := by simp [rd_L1, h]
theorem refR4 (k : Nat) (cn : List Int) (b : Int) (hcl : cn.length ≤ 30) (d : Nat) : ∀ (i k : Nat), i + d = cn.length → d < k → peaveyref03_CheckRuns.l4 k cn b i = some (if (cn.drop i).any no1 then (0, 14) else (b, 0)) := by
  induction d with
  | zero =>
    intro i k hi hk
    obtain ⟨k, rfl⟩ : ∃ q, k = q + 1 := ⟨k - 1, by omega⟩
    rw [peaveyref03_CheckRuns.l4, if_neg (by omega), List.drop_eq_nil_of_le (by omega)]; rfl
  | succ d ih =>
    intro i k hi hk
    obtain ⟨k, rfl⟩ : ∃ q, k = q + 1 := ⟨k - 1, by omega⟩
    have hlt : i < cn.length := by omega
    rw [peaveyref03_CheckRuns.l4, if_pos (by omega), if_pos (by omega), List.drop_eq_getElem_cons hlt, ← rd_get cn hlt, List.any_cons]
    by_cases h : rd cn (i : Nat) = 1
    · rw [if_pos h, wrap_succ (by omega), ih (i + 1) k (by omega) (by omega)]
      simp [no1, h]
    · rw [if_neg h]; simp [no1, h]
/-- one run's logs, counted -/
theorem refR3 {m : Int} {xs : List (List Int)} {q : Nat} (hq : q < xs.length) (hxl : xs.length ≤ 30) (b : Int) (K n : Nat) (hn : n ≤ 30) (hx : (rd_L1 xs (q : Nat)).length ≤ 1000) (hm : ∀ i ∈ rd_L1 xs (q : Nat), 0 ≤ i ∧ i < n) (d : Nat) : ∀ (j : Nat) (cn : List Int), j + d = (rd_L1 xs (q : Nat)).length → cn.length = n →
    (∀ i, i < n → 0 ≤ rd cn (i : Nat) ∧ rd cn (i : Nat) + d < 1000000) → ∃ r, peaveyref03_CheckRuns.l3 (K + d + 1) m xs cn b q j = peaveyref03_CheckRuns.l2 K m xs r (wrap64 (b + mn m ((rd_L1 xs (q : Nat)).length : Int))) (wrap64 ((q : Int) + 1)) ∧ r.length = n ∧ ∀ i, i < n → rd r (i : Nat) = rd cn (i : Nat) + ((rd_L1 xs (q : Nat)).drop j).count (i : Int) := by
  induction d with
  | zero =>
    intro j cn hj hcn hb
    refine ⟨cn, ?_, hcn, fun i hi => ?_⟩
    · rw [show K + 0 + 1 = K + 1 from rfl, peaveyref03_CheckRuns.l3, if_pos (by omega), if_pos (by omega), if_neg (by omega)]
    · rw [List.drop_eq_nil_of_le (by omega)]; simp
  | succ d ih =>
    intro j cn hj hcn hb
    obtain ⟨x, hxe⟩ : ∃ x, x = rd_L1 xs (q : Nat) := ⟨_, rfl⟩
    rw [← hxe] at hx hm hj ih ⊢
    have hlt : j < x.length := by omega
    have m1 := hm _ (rd_mem hlt)
    obtain ⟨a, ha⟩ : ∃ a : Nat, rd x (j : Nat) = a := ⟨(rd x (j : Nat)).toNat, by omega⟩
    have hba := hb a (by omega)
    have hw : wrap64 (rd cn (a : Nat) + 1) = rd cn (a : Nat) + 1 := IntWalk.wrap64_in _ ⟨by omega, by omega⟩
    obtain ⟨r, r1, r2, r3⟩ := ih (j + 1) (cn.set a (rd cn (a : Nat) + 1)) (by clear hw; omega) (by rw [List.length_set]; exact hcn) (fun i hi => by
      clear hw
      have := hb i hi
      by_cases e : i = a
      · subst e; rw [rd_set_same cn (by omega)]; omega
      · rw [rd_set_other cn e]; omega)
    refine ⟨r, ?_, r2, fun i hi => ?_⟩
    · rw [show K + (d + 1) + 1 = (K + d + 1) + 1 by clear hw; omega, peaveyref03_CheckRuns.l3, ← hxe, if_pos (by clear hw; omega), if_pos (by clear hw; omega), if_pos (by clear hw; omega), if_pos (by clear hw; omega), ha, if_pos (by clear hw; omega), if_pos (by clear hw; omega), hw, wrap_succ (by clear hw; omega), Int.toNat_natCast]
      exact r1
    · clear hw
      rw [r3 i hi, List.drop_eq_getElem_cons hlt, List.count_cons, ← rd_get x hlt, ha]
      by_cases e : i = a
      · subst e
        rw [rd_set_same cn (by omega)]; simp; omega
      · rw [rd_set_other cn e]
        have : ((a : Int) == (i : Int)) = false := beq_eq_false_iff_ne.2 (by omega)
        simp [this]
theorem bndR_cons (m : Int) (x : List Int) (xs : List (List Int)) : bndR m (x :: xs) = min m (x.length : Int) + bndR m xs := by
  have key : ∀ (L : List Int) (a : Int), L.foldl (· + ·) a = a + L.foldl (· + ·) 0 := by
    intro L
    induction L with
    | nil => intro a; simp
    | cons y L ih => intro a; rw [List.foldl_cons, List.foldl_cons, ih (a + y), ih (0 + y)]; omega
  unfold bndR sumI
  rw [List.map_cons, List.foldl_cons, key]; omega
theorem fuel_cut {d K len : Nat} (h : (d + 1) * 1002 + 40 < K) (h2 : len ≤ 1000) : K = K - len - 2 + len + 1 + 1 := by omega
theorem fuel_less {d K len : Nat} (h : (d + 1) * 1002 + 40 + 1 ≤ K + len + 1 + 1) (h2 : len ≤ 1000) : d * 1002 + 40 < K := by omega
theorem refR2 {m : Int} (hm : 0 ≤ m ∧ m ≤ 30) {xs : List (List Int)} (hxl : xs.length ≤ 30) {n : Nat} (hn : n ≤ 30) (hx : ∀ x ∈ xs, x.length ≤ 1000 ∧ ∀ i ∈ x, 0 ≤ i ∧ i < n) (d : Nat) : ∀ (q K : Nat) (cn : List Int) (b : Int), q + d = xs.length → d * 1002 + 40 < K → cn.length = n →
    (∀ i, i < n → 0 ≤ rd cn (i : Nat) ∧ rd cn (i : Nat) + d * 1000 < 1000000) → 0 ≤ b ∧ b + d * 30 < 100000 →
    ∃ r, peaveyref03_CheckRuns.l2 K m xs cn b q = some (if r.any no1 then (0, 14) else (b + bndR m (xs.drop q), 0)) ∧ r.length = n ∧ ∀ i, i < n → rd r (i : Nat) = rd cn (i : Nat) + (xs.drop q).flatten.count (i : Int) := by
  induction d with
  | zero =>
    intro q K cn b hq hK hcn hb hbb
    obtain ⟨K, rfl⟩ : ∃ p, K = p + 1 := ⟨K - 1, by omega⟩
    refine ⟨cn, ?_, hcn, fun i _ => ?_⟩
    · have e := refR4 K cn b (by omega) cn.length 0 K (by omega) (by omega)
      rw [show (((0 : Nat)) : Int) = 0 from rfl, List.drop_zero] at e
      rw [peaveyref03_CheckRuns.l2, if_neg (by omega), e, List.drop_eq_nil_of_le (by omega)]
      rw [show bndR m [] = 0 from rfl, Int.add_zero]
    · rw [List.drop_eq_nil_of_le (by omega)]; simp
  | succ d ih =>
    intro q K cn b hq hK hcn hb hbb
    have hlt : q < xs.length := by omega
    have hget : rd_L1 xs (q : Nat) = xs[q] := rdL_get hlt
    have hxq := hx xs[q] (List.getElem_mem hlt)
    rw [← hget] at hxq
    obtain ⟨len, hlen⟩ : ∃ len, len = (rd_L1 xs (q : Nat)).length := ⟨_, rfl⟩
    have hlen2 : len ≤ 1000 := by rw [hlen]; exact hxq.1
    obtain ⟨K, rfl⟩ : ∃ p, K = p + len + 1 + 1 := ⟨K - len - 2, fuel_cut hK hlen2⟩
    have hK2 : d * 1002 + 40 < K := fuel_less hK hlen2
    have hq2 : q + 1 + d = xs.length := by omega
    subst hlen
    obtain ⟨r, r1, r2, r3⟩ := refR3 (m := m) hlt hxl b K n hn hxq.1 hxq.2 (rd_L1 xs (q : Nat)).length 0 cn (by omega) hcn (fun i hi => by have := hb i hi; omega)
    have hmn : mn m ((rd_L1 xs (q : Nat)).length : Int) = min m ((rd_L1 xs (q : Nat)).length : Int) := by unfold mn; split <;> omega
    have hc : ∀ i : Nat, (rd_L1 xs (q : Nat)).count (i : Int) ≤ (rd_L1 xs (q : Nat)).length := fun i => List.count_le_length
    obtain ⟨r', g1, g2, g3⟩ := ih (q + 1) K r (b + min m ((rd_L1 xs (q : Nat)).length : Int)) hq2 hK2 r2 (fun i hi => by
      have h1 := r3 i hi
      have h2 := hb i hi
      have h3 := hc i
      rw [List.drop_zero] at h1
      omega) (by omega)
    refine ⟨r', ?_, g2, fun i hi => ?_⟩
    · rw [show (((0 : Nat)) : Int) = 0 from rfl] at r1
      rw [peaveyref03_CheckRuns.l2, if_pos (by omega), r1, hmn, IntWalk.wrap64_in _ ⟨by omega, by omega⟩, wrap_succ (by omega), g1, List.drop_eq_getElem_cons hlt, bndR_cons, hget]
      congr 2
      congr 1
      omega
    · rw [g3 i hi, r3 i hi, List.drop_zero, List.drop_eq_getElem_cons hlt, List.flatten_cons, List.count_append, hget]; omega
theorem refR1 {l : List Int} {m : Int} (hl : l.length ≤ 30) (hm : 0 ≤ m ∧ m ≤ 30) {xs : List (List Int)} (hxl : xs.length ≤ 30) (hx : ∀ x ∈ xs, x.length ≤ 1000 ∧ listB l.length 0 x = true) (d : Nat) : ∀ (q K : Nat), q + d = xs.length → 40000 + d < K →
    peaveyref03_CheckRuns.l1 K l m xs q = some (if (xs.drop q).any (fun x => !fallB l x) then (0, 16) else if (List.range l.length).any (fun i => inR xs i != 1) then (0, 14) else (bndR m xs, 0)) := by
  induction d with
  | zero =>
    intro q K hq hK
    obtain ⟨K, rfl⟩ : ∃ p, K = p + 1 := ⟨K - 1, by omega⟩
    rw [peaveyref03_CheckRuns.l1, if_neg (by omega), if_pos (by omega), Int.toNat_natCast, if_pos (by omega), List.drop_eq_nil_of_le (by omega)]
    obtain ⟨r, r1, r2, r3⟩ := refR2 hm hxl hl (fun x h => ⟨(hx x h).1, fun i hi => by have := listB_mem (hx x h).2 i hi; omega⟩) xs.length 0 K (List.replicate l.length 0) 0 (by omega) (by omega) (by simp) (fun i hi => by rw [rd_zeros]; omega) (by omega)
    rw [show ((0 : Int)) = ((0 : Nat) : Int) from rfl] at r1 ⊢
    rw [r1, List.drop_zero]
    have : r.any no1 = (List.range l.length).any fun i => inR xs i != 1 := by
      have e : r = (List.range l.length).map fun i => rd r (i : Nat) := by
        apply List.ext_getElem
        · simp; omega
        · intro i h1 h2
          simp only [List.getElem_map, List.getElem_range]
          rw [rd_get r h1]
      rw [e, List.any_map]
      have : ∀ L : List Nat, (∀ i ∈ L, i < l.length) → L.any (no1 ∘ fun i => rd r (i : Nat)) = L.any fun i => inR xs i != 1 := by
        intro L
        induction L with
        | nil => intro _; rfl
        | cons a L ih =>
          intro hL
          rw [List.any_cons, List.any_cons, ih fun i hi => hL i (List.mem_cons_of_mem _ hi)]
          congr 1
          have := r3 a (hL a List.mem_cons_self)
          rw [rd_zeros, List.drop_zero, Int.zero_add] at this
          simp only [Function.comp, no1, this]
          unfold inR
          cases hh : (xs.flatten.count (a : Int) != 1)
          · simp only [bne_eq_false_iff_eq] at hh ⊢; omega
          · simp only [bne_iff_ne, ne_eq] at hh ⊢; omega
      exact this _ fun i hi => List.mem_range.1 hi
    rw [this]
    simp
  | succ d ih =>
    intro q K hq hK
    obtain ⟨K, rfl⟩ : ∃ p, K = p + 1 := ⟨K - 1, by omega⟩
    have hlt : q < xs.length := by omega
    have hxq := hx xs[q] (List.getElem_mem hlt)
    rw [peaveyref03_CheckRuns.l1, if_pos (by omega), if_pos (by omega), rdL_get hlt, rising_is hxq.1 K (by omega), Option.bind_some, risV, if_pos hxq.2, List.drop_eq_getElem_cons hlt, List.any_cons]
    cases hf : fallB l xs[q]
    · rw [if_neg (show ¬ ((if false = true then (0 : Int) else 16) = 0) by decide)]; simp
    · rw [if_pos rfl, if_pos rfl, wrap_succ (by omega), ih (q + 1) K (by omega) (by omega)]; rfl
theorem refR0 {l : List Int} {m : Int} (hl : l.length ≤ 30) (hm : 0 ≤ m ∧ m ≤ 30) {xs : List (List Int)} (hxl : xs.length ≤ 30) (hx : ∀ x ∈ xs, x.length ≤ 1000) (d : Nat) : ∀ (q K : Nat), q + d = xs.length → 50000 + d < K → (∀ i (h : i < xs.length), i < q → listB l.length 0 xs[i] = true) →
    peaveyref03_CheckRuns.l0 K l m xs q = some (if (xs.drop q).any (fun x => !listB l.length 0 x) then (0, 3) else if xs.any (fun x => !fallB l x) then (0, 16) else if (List.range l.length).any (fun i => inR xs i != 1) then (0, 14) else (bndR m xs, 0)) := by
  induction d with
  | zero =>
    intro q K hq hK hL
    obtain ⟨K, rfl⟩ : ∃ p, K = p + 1 := ⟨K - 1, by omega⟩
    rw [peaveyref03_CheckRuns.l0, if_neg (by omega), List.drop_eq_nil_of_le (by omega), List.any_nil, if_neg (by decide)]
    have := refR1 hl hm hxl (fun x h => by
      refine ⟨hx x h, ?_⟩
      obtain ⟨i, hi, rfl⟩ := List.getElem_of_mem h
      exact hL i hi (by omega)) xs.length 0 K (by omega) (by omega)
    rw [List.drop_zero] at this
    exact this
  | succ d ih =>
    intro q K hq hK hL
    obtain ⟨K, rfl⟩ : ∃ p, K = p + 1 := ⟨K - 1, by omega⟩
    have hlt : q < xs.length := by omega
    have hxq := hx xs[q] (List.getElem_mem hlt)
    rw [peaveyref03_CheckRuns.l0, if_pos (by omega), if_pos (by omega), rdL_get hlt, rising_is hxq K (by omega), Option.bind_some, risV, List.drop_eq_getElem_cons hlt, List.any_cons]
    cases hf : listB l.length 0 xs[q]
    · rw [if_neg (show ¬ false = true by decide), if_pos rfl]; simp
    · rw [if_pos rfl, if_neg (by split <;> omega), wrap_succ (by omega), ih (q + 1) K (by omega) (by omega) (fun i h h2 => by
        by_cases e : i = q
        · subst e; exact hf
        · exact hL i h (by omega))]; rfl
theorem refRuns_ck (l : List Int) (m : Int) (xs : List (List Int)) (hx : ∀ x ∈ xs, x.length ≤ 1000) (k : Nat) (hk : 60000 ≤ k) : peaveyref03_CheckRuns.f k l m xs = some (ckrV l m xs) := by
  unfold peaveyref03_CheckRuns.f ckrV
  rw [asked_is l m k (by omega), Option.bind_some]
  by_cases h : openE l m = 0
  · obtain ⟨g1, g2, g3, g4, g5⟩ := open_zero h
    rw [if_pos h, if_neg (show ¬ openE l m ≠ 0 by omega)]
    by_cases h6 : 30 < xs.length
    · rw [if_pos (by omega), if_pos h6]
    · rw [if_neg (by omega), if_neg h6]
      have := refR0 g2 ⟨g3, g4⟩ (xs := xs) (by omega) hx xs.length 0 k (by omega) (by omega) (fun i h h2 => absurd h2 (Nat.not_lt_zero _))
      rw [List.drop_zero] at this
      exact this
  · rw [if_neg h, if_pos h, Option.bind_some]
end Go.Proofs.Ytmfonbonfhngnaa.Hand

/- Runs, as lists that are judged right, and no turning that takes more than their bound. -/
namespace Go.Proofs.Ytmfonbonfhngnaa.Hand
set_option linter.unusedVariables false
set_option linter.unusedSimpArgs false
open Go.RowKit Go.Proofs.YtmfonbonfhngnaaW.PrintWords Go.Proofs.YtmfonbonfhngnaaW.PrintLast
set_option linter.unusedVariables false
set_option linter.unusedSimpArgs false

/-- logs as whole numbers -/
def natsI (y : List Nat) : List Int := y.map fun n : Nat => (n : Int)
theorem natsI_len (y : List Nat) : (natsI y).length = y.length := by simp [natsI]
theorem natsI_app (a b : List Nat) : natsI (a ++ b) = natsI a ++ natsI b := by simp [natsI]
theorem run_pairwise {l : List Int} : ∀ {x : List Int} {lo : Int}, listB l.length lo x = true → fallB l x = true → x.Pairwise (fun a b => a < b ∧ rd l b < rd l a)
  | [], _, _, _ => .nil
  | a :: r, lo, h1, h2 => by
    simp only [listB, Bool.and_eq_true, decide_eq_true_eq] at h1
    cases r with
    | nil => simp
    | cons b r =>
      rw [fallB_cons, Bool.and_eq_true, decide_eq_true_eq] at h2
      have ih := run_pairwise h1.2 h2.2
      refine List.pairwise_cons.2 ⟨fun c hc => ?_, ih⟩
      have := listB_mem h1.2 c hc
      rcases List.mem_cons.1 hc with rfl | hc
      · exact ⟨by omega, h2.1⟩
      · have := (List.pairwise_cons.1 ih).1 c hc
        exact ⟨by omega, by omega⟩
theorem run_nat {l x : List Int} (h1 : listB l.length 0 x = true) (h2 : fallB l x = true) : ∃ y, x = natsI y ∧ RunN l y := by
  have hp := run_pairwise h1 h2
  have hm := listB_mem h1
  refine ⟨x.map Int.toNat, ?_, ?_, fun a ha => ?_⟩
  · unfold natsI
    rw [List.map_map]
    refine (List.map_id x).symm.trans (List.map_congr_left fun a ha => ?_)
    have := hm a ha
    simp only [Function.comp, id]; omega
  · rw [List.pairwise_map]
    refine hp.imp_of_mem fun {a b} ma mb hab => ?_
    have h3 := hm a ma
    have h4 := hm b mb
    rw [show ((a.toNat : Nat) : Int) = a by omega, show ((b.toNat : Nat) : Int) = b by omega]
    exact ⟨by omega, hab.2⟩
  · obtain ⟨b, hb, rfl⟩ := List.mem_map.1 ha
    have := hm b hb
    omega
theorem listB_of {n : Nat} : ∀ {y : List Nat} {lo : Int}, y.Pairwise (· < ·) → (∀ a ∈ y, lo ≤ a ∧ a < n) → listB n lo (natsI y) = true
  | [], _, _, _ => rfl
  | a :: y, lo, hp, hm => by
    obtain ⟨h1, h2⟩ := List.pairwise_cons.1 hp
    have ha := hm a List.mem_cons_self
    show listB n lo ((a : Int) :: natsI y) = true
    rw [listB, listB_of h2 fun b hb => ⟨by have := h1 b hb; omega, (hm b (List.mem_cons_of_mem _ hb)).2⟩]
    simp; omega
theorem fallB_of {l : List Int} : ∀ {y : List Nat}, y.Pairwise (fun a b => a < b ∧ rd l (b : Nat) < rd l (a : Nat)) → fallB l (natsI y) = true
  | [], _ => rfl
  | [a], _ => rfl
  | a :: b :: y, hp => by
    obtain ⟨h1, h2⟩ := List.pairwise_cons.1 hp
    show fallB l ((a : Int) :: (b : Int) :: natsI y) = true
    rw [fallB_cons, Bool.and_eq_true, decide_eq_true_eq]
    exact ⟨(h1 b List.mem_cons_self).2, fallB_of h2⟩
/-- a run is judged right -/
theorem run_ok {l : List Int} {y : List Nat} (h : RunN l y) : risV l (natsI y) = 0 := by
  unfold risV
  rw [listB_of (h.1.imp fun h => h.1) (fun a ha => ⟨by omega, h.2 a ha⟩), fallB_of h.1]; rfl
theorem ok_run {l x : List Int} (h : risV l x = 0) : ∃ y, x = natsI y ∧ RunN l y := by
  unfold risV at h
  split at h
  · rename_i h1
    split at h
    · rename_i h2; exact run_nat h1 h2
    · omega
  · omega
theorem crV_ok {l x : List Int} (h : crV l x = 0) : rowE l = 0 ∧ risV l x = 0 := by
  unfold crV at h
  split at h
  · rename_i h1; exact absurd h h1
  · rename_i h1; exact ⟨by omega, h⟩
/-- no run that is judged right has more logs than there are lines -/
theorem run_lines {l x : List Int} (h : crV l x = 0) : x.length ≤ lines l := by
  obtain ⟨h1, h2⟩ := crV_ok h
  obtain ⟨hl, _⟩ := row_zero h1
  obtain ⟨y, rfl, hy⟩ := ok_run h2
  obtain ⟨out, g1, g2⟩ := lines_put hl
  rw [natsI_len]
  exact run_le g1 g2 hy

/-! ### runs that part the row -/
/-- numbers of logs, summed over a list of logs -/
def sumX (f : Nat → Int) (X : List Int) : Int := (X.map fun i => f i.toNat).foldr (· + ·) 0
theorem sumX_cons (f : Nat → Int) (a : Int) (X : List Int) : sumX f (a :: X) = f a.toNat + sumX f X := rfl
theorem sumX_app (f : Nat → Int) (X Y : List Int) : sumX f (X ++ Y) = sumX f X + sumX f Y := by
  induction X with
  | nil => simp [sumX]
  | cons a X ih => rw [List.cons_append, sumX_cons, sumX_cons, ih]; omega
theorem sumX_count (f : Nat → Int) {n : Nat} : ∀ (X : List Int), (∀ i ∈ X, 0 ≤ i ∧ i < n) → sumX f X = totG n fun i => (X.count (i : Int) : Int) * f i
  | [], _ => by
    rw [totG_congr (g := fun _ => 0) fun i _ => by simp, totG_zero]; rfl
  | a :: X, h => by
    have ha := h a List.mem_cons_self
    rw [sumX_cons, sumX_count f X fun i hi => h i (List.mem_cons_of_mem _ hi)]
    have e : ∀ i, i < n → (((a :: X).count (i : Int) : Nat) : Int) * f i = (X.count (i : Int) : Int) * f i + if a.toNat = i then f a.toNat else 0 := by
      intro i hi
      rw [List.count_cons]
      by_cases e : a.toNat = i
      · rw [if_pos e]
        have : (a == (i : Int)) = true := beq_iff_eq.2 (by omega)
        rw [this, if_pos rfl, e, show ((X.count (i : Int) + 1 : Nat) : Int) = (X.count (i : Int) : Int) + 1 by omega, Int.add_mul, Int.one_mul]
      · rw [if_neg e]
        have : (a == (i : Int)) = false := beq_eq_false_iff_ne.2 (by omega)
        rw [this]; simp
    rw [totG_congr e, totG_add, tot_pick _ (by omega)]; omega
theorem sumX_le {f g : Nat → Int} (h : ∀ i, f i ≤ g i) : ∀ X, sumX f X ≤ sumX g X
  | [] => Int.le_refl _
  | a :: X => by
    have := h a.toNat
    have := sumX_le h X
    rw [sumX_cons, sumX_cons]; omega
theorem sumX_one (X : List Int) : sumX (fun _ => 1) X = X.length := by
  induction X with
  | nil => rfl
  | cons a X ih => rw [sumX_cons, ih]; simp; omega
/-- runs that are judged right part the row -/
structure Parts (l : List Int) (xs : List (List Int)) : Prop where
  run : ∀ x ∈ xs, ∃ y, x = natsI y ∧ RunN l y
  once : ∀ i, i < l.length → inR xs i = 1
theorem ckr_parts {l : List Int} {m b : Int} {xs : List (List Int)} (h : ckrV l m xs = (b, 0)) : openE l m = 0 ∧ Parts l xs ∧ b = bndR m xs := by
  unfold ckrV at h
  split at h
  · rename_i h1
    exact absurd (congrArg Prod.snd h) h1
  · rename_i h1
    split at h
    · exact absurd (congrArg Prod.snd h) (by simp)
    · split at h
      · exact absurd (congrArg Prod.snd h) (by simp)
      · rename_i h3
        split at h
        · exact absurd (congrArg Prod.snd h) (by simp)
        · rename_i h4
          split at h
          · exact absurd (congrArg Prod.snd h) (by simp)
          · rename_i h5
            refine ⟨by omega, ⟨fun x hx => run_nat (any_no (b := fun x => listB l.length 0 x) h3 x hx) (any_no (b := fun x => fallB l x) h4 x hx), fun i hi => ?_⟩, (congrArg Prod.fst h).symm⟩
            have : ¬ (inR xs i != 1) = true := fun hh => h5 (List.any_eq_true.2 ⟨i, List.mem_range.2 hi, hh⟩)
            simpa using this
theorem parts_ckr {l : List Int} {m : Int} {xs : List (List Int)} (ho : openE l m = 0) (hl : xs.length ≤ 30) (h : Parts l xs) : ckrV l m xs = (bndR m xs, 0) := by
  have h3 : (xs.any fun x => !listB l.length 0 x) = false := by
    rw [List.any_eq_false]
    intro x hx
    obtain ⟨y, rfl, hy⟩ := h.run x hx
    rw [listB_of (hy.1.imp fun h => h.1) (fun a ha => ⟨by omega, hy.2 a ha⟩)]; simp
  have h4 : (xs.any fun x => !fallB l x) = false := by
    rw [List.any_eq_false]
    intro x hx
    obtain ⟨y, rfl, hy⟩ := h.run x hx
    rw [fallB_of hy.1]; simp
  have h5 : ((List.range l.length).any fun i => inR xs i != 1) = false := by
    rw [List.any_eq_false]
    intro i hi
    rw [h.once i (List.mem_range.1 hi)]; simp
  unfold ckrV
  rw [if_neg (by omega), if_neg (by omega), h3, h4, h5]
  simp
theorem Parts.sum {l : List Int} {xs : List (List Int)} (h : Parts l xs) (f : Nat → Int) : sumX f xs.flatten = totG l.length f := by
  rw [sumX_count f (n := l.length) xs.flatten fun i hi => by
    obtain ⟨x, hx, hi⟩ := List.mem_flatten.1 hi
    obtain ⟨y, rfl, hy⟩ := h.run x hx
    obtain ⟨a, ha, rfl⟩ := List.mem_map.1 hi
    have := hy.2 a ha
    omega]
  refine totG_congr fun i hi => ?_
  have := h.once i hi
  unfold inR at this
  rw [this]; simp
theorem sumX_flat {f : Nat → Int} {m : Int} : ∀ {xs : List (List Int)}, (∀ x ∈ xs, sumX f x ≤ min m (x.length : Int)) → sumX f xs.flatten ≤ bndR m xs
  | [], _ => Int.le_refl _
  | x :: xs, h => by
    have h1 := h x List.mem_cons_self
    have h2 := sumX_flat fun y hy => h y (List.mem_cons_of_mem _ hy)
    rw [List.flatten_cons, sumX_app, bndR_cons]; omega
theorem sumX_flat_ge {f : Nat → Int} {m : Int} : ∀ {xs : List (List Int)}, (∀ x ∈ xs, min m (x.length : Int) ≤ sumX f x) → bndR m xs ≤ sumX f xs.flatten
  | [], _ => Int.le_refl _
  | x :: xs, h => by
    have h1 := h x List.mem_cons_self
    have h2 := sumX_flat_ge fun y hy => h y (List.mem_cons_of_mem _ hy)
    rw [List.flatten_cons, sumX_app, bndR_cons]; omega
theorem sumX_filter (P : Nat → Prop) [DecidablePred P] : ∀ (y : List Nat), sumX (fun i => if P i then 1 else 0) (natsI y) = (y.filter fun i => decide (P i)).length
  | [] => rfl
  | a :: y => by
    show sumX _ ((a : Int) :: natsI y) = _
    rw [sumX_cons, sumX_filter P y, Int.toNat_natCast, List.filter_cons]
    by_cases h : P a
    · rw [if_pos h, if_pos (by simpa using h)]; simp; omega
    · rw [if_neg h, if_neg (by simpa using h)]; omega
/-- the stage's theorem, half of it: no turning takes more logs than the bound of runs that part the row -/
theorem parts_bound {l : List Int} {xs : List (List Int)} {m : Nat} {out : List Int} (h : Parts l xs) (hp : Put l out m) : cntO out ≤ bndR m xs := by
  have e : cntO out = sumX (fun i => if 0 ≤ rd out (i : Nat) then 1 else 0) xs.flatten := by
    rw [h.sum]; unfold cntO; rw [hp.len]
  rw [e]
  refine sumX_flat fun x hx => ?_
  obtain ⟨y, rfl, hy⟩ := h.run x hx
  rw [sumX_filter (fun i => 0 ≤ rd out (i : Nat)), natsI_len]
  have h1 : (y.filter fun i => decide (0 ≤ rd out (i : Nat))).length ≤ y.length := List.length_filter_le _ _
  have h2 : (y.filter fun i => decide (0 ≤ rd out (i : Nat))).length ≤ m := by
    have hn : ((y.filter fun i => decide (0 ≤ rd out (i : Nat))).map fun a => (rd out (a : Nat)).toNat).Nodup := by
      rw [List.Nodup, List.pairwise_map]
      refine (List.Pairwise.filter _ hy.1).imp_of_mem fun {a b} ma mb hab e => ?_
      have ha := List.mem_filter.1 ma
      have hb := List.mem_filter.1 mb
      have a0 := of_decide_eq_true ha.2
      have b0 := of_decide_eq_true hb.2
      have := hp.order a b hab.1 (hy.2 b hb.1) a0 (by omega)
      omega
    have := nodup_len m _ hn (fun z hz => by
      obtain ⟨a, ma, rfl⟩ := List.mem_map.1 hz
      have ha := List.mem_filter.1 ma
      have a0 := of_decide_eq_true ha.2
      have := hp.range a (hy.2 a ha.1)
      omega)
    simpa using this
  omega
end Go.Proofs.Ytmfonbonfhngnaa.Hand

/- The runs of a net part the row, and their bound is how many logs are taken. -/
namespace Go.Proofs.Ytmfonbonfhngnaa.Hand
set_option linter.unusedVariables false
set_option linter.unusedSimpArgs false
open Go.RowKit Go.Proofs.YtmfonbonfhngnaaW.PrintWords Go.Proofs.YtmfonbonfhngnaaW.PrintLast
set_option linter.unusedVariables false
set_option linter.unusedSimpArgs false

theorem getD_app_nil (lv : List (List Int)) (d L : Nat) : (lv ++ List.replicate d []).getD L [] = lv.getD L [] := by
  simp only [List.getD_eq_getElem?_getD]
  by_cases h : L < lv.length
  · rw [List.getElem?_append_left h]
  · rw [List.getElem?_append_right (by omega), List.getElem?_eq_none (l := lv) (by omega), List.getElem?_replicate]
    split <;> rfl
theorem padTo_getD (lv : List (List Int)) (f L : Nat) : (padTo lv f).getD L [] = lv.getD L [] := getD_app_nil lv _ L
theorem padTo_len (lv : List (List Int)) (f : Nat) : (padTo lv f).length = max lv.length (f + 1) := by
  unfold padTo
  rw [List.length_append, List.length_replicate]; omega
theorem flat_nil (d : Nat) : (List.replicate d ([] : List Int)).flatten = [] := by
  induction d with
  | zero => rfl
  | succ d ih => rw [List.replicate_succ, List.flatten_cons, ih]; rfl
theorem padTo_flat (lv : List (List Int)) (f : Nat) : (padTo lv f).flatten = lv.flatten := by
  unfold padTo
  rw [List.flatten_append, flat_nil, List.append_nil]
theorem flat_set (a x : Int) : ∀ (lv : List (List Int)) (f : Nat), f < lv.length → ((lv.set f (lv.getD f [] ++ [x])).flatten.count a) = lv.flatten.count a + [x].count a
  | [], f, h => absurd h (Nat.not_lt_zero _)
  | y :: lv, 0, _ => by
    rw [List.set_cons_zero, List.flatten_cons, List.flatten_cons, List.getD_cons_zero, List.count_append, List.count_append, List.count_append]; omega
  | y :: lv, f + 1, h => by
    rw [List.set_cons_succ, List.flatten_cons, List.flatten_cons, List.getD_cons_succ, List.count_append, List.count_append, flat_set a x lv f (by simpa using h)]; omega
/-- is the way over a log longer than that to it? -/
def upQ (G : Nat → Int) (i : Nat) : Bool := decide (G (2 * i + 2) < G (2 * i + 3))
def levQ (G : Nat → Int) (L i : Nat) : Bool := upQ G i && ((G (2 * i + 2)).toNat == L)
structure RunsI (G : Nat → Int) (i : Nat) (lv out : List (List Int)) : Prop where
  lone : out = ((List.range i).filter fun j => !upQ G j).map fun j : Nat => [(j : Int)]
  level : ∀ L, lv.getD L [] = natsI ((List.range i).filter (levQ G L))
  len : lv.length ≤ 31
  cnt : ∀ a : Nat, out.flatten.count (a : Int) + lv.flatten.count (a : Int) = if a < i then 1 else 0
theorem runs_go {l : List Int} {F : Nat → Nat → Int} {t : List Int} {G : Nat → Int} (h : PotL l F t G) (d : Nat) : ∀ (i : Nat) (lv out : List (List Int)), i + d = l.length → RunsI G i lv out → ∃ lv' out', runsL G d i lv out = some (lv', out') ∧ RunsI G l.length lv' out' := by
  induction d with
  | zero =>
    intro i lv out hi hI
    obtain rfl : i = l.length := by omega
    exact ⟨lv, out, rfl, hI⟩
  | succ d ih =>
    intro i lv out hi hI
    have hlt : i < l.length := by omega
    have hge := h.ge i hlt
    have htop := h.top
    have hone : ∀ a : Nat, [(i : Int)].count (a : Int) = if a = i then 1 else 0 := fun a => by
      by_cases e : a = i
      · subst e; simp
      · rw [if_neg e, List.count_eq_zero]
        intro hm
        have : (a : Int) = i := by simpa using hm
        omega
    rw [runsL]
    by_cases hs : G (2 * i + 3) ≤ G (2 * i + 2)
    · rw [if_pos hs]
      have hu : upQ G i = false := decide_eq_false (by omega)
      refine ih (i + 1) _ _ (by omega) ⟨?_, fun L => ?_, hI.len, fun a => ?_⟩
      · rw [List.range_succ, List.filter_append, List.map_append, ← hI.lone]
        simp [hu]
      · rw [hI.level L, List.range_succ, List.filter_append]
        have : levQ G L i = false := by unfold levQ; rw [hu]; rfl
        simp [this]
      · have := hI.cnt a
        rw [List.flatten_append, List.count_append, show [[(i : Int)]].flatten = [(i : Int)] from rfl, hone a]
        split at this <;> split <;> split <;> omega
    · rw [if_neg hs, if_pos ⟨by omega, by omega⟩]
      have hu : upQ G i = true := decide_eq_true (by omega)
      obtain ⟨f, hf⟩ : ∃ f, f = (G (2 * i + 2)).toNat := ⟨_, rfl⟩
      rw [← hf]
      have hpl := padTo_len lv f
      have hlen := hI.len
      refine ih (i + 1) _ _ (by omega) ⟨?_, fun L => ?_, by rw [List.length_set, hpl]; omega, fun a => ?_⟩
      · rw [List.range_succ, List.filter_append, List.map_append, ← hI.lone]
        simp [hu]
      · rw [List.range_succ, List.filter_append, natsI_app, ← hI.level L, ← padTo_getD lv f L]
        by_cases e : L = f
        · subst e
          have : levQ G L i = true := by unfold levQ; rw [hu, ← hf]; simp
          rw [List.getD_eq_getElem?_getD, List.getElem?_set_self (by omega)]
          simp [this, natsI]
        · have : levQ G L i = false := by
            unfold levQ; rw [hu, ← hf]
            simp; omega
          rw [List.getD_eq_getElem?_getD, List.getElem?_set_ne (Ne.symm e), ← List.getD_eq_getElem?_getD]
          simp [this, natsI]
      · have := hI.cnt a
        rw [flat_set (a : Int) (i : Int) (padTo lv f) f (by omega), padTo_flat, hone a]
        split at this <;> split <;> split <;> omega
theorem filter_flat (lv : List (List Int)) : (lv.filter fun x => !(x.length == 0)).flatten = lv.flatten := by
  induction lv with
  | nil => rfl
  | cons x lv ih =>
    rw [List.filter_cons, List.flatten_cons]
    split
    · rw [List.flatten_cons, ih]
    · rename_i h
      have : x = [] := by
        cases x with
        | nil => rfl
        | cons a x => simp at h
      rw [ih, this]; rfl
theorem flat_len : ∀ {xs : List (List Int)}, (∀ x ∈ xs, x ≠ []) → xs.length ≤ xs.flatten.length
  | [], _ => Nat.le_refl _
  | x :: xs, h => by
    have h1 := flat_len fun y hy => h y (List.mem_cons_of_mem _ hy)
    have h2 := List.length_pos_iff.2 (h x List.mem_cons_self)
    rw [List.flatten_cons, List.length_append, List.length_cons]; omega
theorem sumX_filt (f : Nat → Int) (P : Nat → Bool) : ∀ n : Nat, sumX f (natsI ((List.range n).filter P)) = totG n fun i => if P i = true then f i else 0
  | 0 => rfl
  | n + 1 => by
    rw [List.range_succ, List.filter_append, natsI_app, sumX_app, sumX_filt f P n, totG]
    cases h : P n
    · simp [h, natsI, sumX]
    · simp [h, natsI, sumX]
theorem runs_is {l : List Int} {m : Int} (h : rowE l = 0) (h0 : 0 ≤ m) (h1 : m ≤ 30) (k : Nat) (hk : 70000 ≤ k) : ∃ R, gap_Runs.f k l m = some (R, 0) ∧ Parts l R ∧ R.length ≤ 30 ∧ bndR m R = best l m.toNat ∧ ∀ x ∈ R, x.length ≤ 30 := by
  obtain ⟨hl, _⟩ := row_zero h
  obtain ⟨F, t, G, e, hd, hT⟩ := pushed_is hl m ⟨h0, h1⟩ k hk
  obtain ⟨lv, out, e2, hI⟩ := runs_go hd.pot l.length 0 [] [] (by omega) ⟨rfl, fun L => by simp [natsI], by simp, fun a => by simp⟩
  have hpot := hd.pot
  have htop := hpot.top
  obtain ⟨R, hR⟩ : ∃ R, R = out ++ lv.filter fun x => !(x.length == 0) := ⟨_, rfl⟩
  have hlv : ∀ x ∈ lv, ∃ L, L < 31 ∧ x = natsI ((List.range l.length).filter (levQ G L)) := fun x hx => by
    obtain ⟨L, hL, rfl⟩ := List.getElem_of_mem hx
    have := hI.level L
    rw [List.getD_eq_getElem?_getD, List.getElem?_eq_getElem hL] at this
    exact ⟨L, by have := hI.len; omega, this⟩
  have hout : ∀ x ∈ out, ∃ i, i < l.length ∧ upQ G i = false ∧ x = natsI [i] := fun x hx => by
    rw [hI.lone] at hx
    obtain ⟨i, hi, rfl⟩ := List.mem_map.1 hx
    obtain ⟨hi1, hi2⟩ := List.mem_filter.1 hi
    exact ⟨i, List.mem_range.1 hi1, by simpa using hi2, rfl⟩
  have hP : Parts l R := by
    refine ⟨fun x hx => ?_, fun i hi => ?_⟩
    · rw [hR] at hx
      rcases List.mem_append.1 hx with hx | hx
      · obtain ⟨i, hi, _, rfl⟩ := hout x hx
        exact ⟨[i], rfl, by simp, fun a ha => by
          obtain rfl : a = i := by simpa using ha
          exact hi⟩
      · obtain ⟨L, hL, rfl⟩ := hlv x (List.mem_filter.1 hx).1
        refine ⟨_, rfl, List.Pairwise.imp_of_mem (R := fun a b => a < b ∧ b < l.length) (fun {a b} ma mb hab => ⟨hab.1, ?_⟩) (List.Pairwise.filter _ (range_pairwise _ fun i j hij hj => ⟨hij, hj⟩)), fun a ha => List.mem_range.1 (List.mem_filter.1 ha).1⟩
        have ha := (List.mem_filter.1 ma).2
        have hb := (List.mem_filter.1 mb).2
        unfold levQ upQ at ha hb
        simp only [Bool.and_eq_true, decide_eq_true_eq, beq_iff_eq] at ha hb
        apply Classical.byContradiction
        intro hn
        have g1 := hpot.next a b hab.1 hab.2 (by omega)
        have g2 := hpot.ge a (by omega)
        have g3 := hpot.ge b hab.2
        omega
    · have := hI.cnt i
      rw [if_pos hi] at this
      unfold inR
      rw [hR, List.flatten_append, filter_flat, List.count_append]
      exact this
  have hlen : R.flatten.length = l.length := by
    have := hP.sum fun _ => 1
    rw [sumX_one, totG_const, Int.mul_one] at this
    omega
  have hne : ∀ x ∈ R, x ≠ [] := fun x hx => by
    rw [hR] at hx
    rcases List.mem_append.1 hx with hx | hx
    · obtain ⟨i, _, _, rfl⟩ := hout x hx
      simp [natsI]
    · intro e
      have := (List.mem_filter.1 hx).2
      rw [e] at this
      simp at this
  have hle := flat_len hne
  have hb1 : bndR m R ≤ sumT t := by
    have hs := hP.sum fun i => rd t (i : Nat)
    rw [show totG l.length (fun i => rd t (i : Nat)) = sumT t by unfold sumT; rw [hd.st.len]] at hs
    rw [← hs]
    refine sumX_flat_ge fun x hx => ?_
    rw [hR] at hx
    rcases List.mem_append.1 hx with hx | hx
    · obtain ⟨i, hi, hu, rfl⟩ := hout x hx
      have : rd t (i : Nat) = 1 := by
        rcases hd.st.bit i (by rw [hd.st.len]; exact hi) with hz | hz
        · have := hpot.left i hi hz
          unfold upQ at hu
          have := of_decide_eq_false hu
          omega
        · exact hz
      show min m ((1 : Nat) : Int) ≤ rd t (((i : Int).toNat : Nat) : Int) + 0
      rw [Int.toNat_natCast, this]; omega
    · obtain ⟨L, hL, rfl⟩ := hlv x (List.mem_filter.1 hx).1
      have hxne := (List.mem_filter.1 hx).2
      -- the level is below the end's
      have hex : ∃ i, i < l.length ∧ levQ G L i = true := by
        cases hh : (List.range l.length).filter (levQ G L) with
        | nil => rw [hh] at hxne; simp [natsI] at hxne
        | cons a r =>
          have : a ∈ (List.range l.length).filter (levQ G L) := by rw [hh]; exact List.mem_cons_self
          obtain ⟨g1, g2⟩ := List.mem_filter.1 this
          exact ⟨a, List.mem_range.1 g1, g2⟩
      obtain ⟨i, hi, hlev⟩ := hex
      unfold levQ upQ at hlev
      simp only [Bool.and_eq_true, decide_eq_true_eq, beq_iff_eq] at hlev
      have hge := hpot.ge i hi
      have hpm : (((lens (tabF l)).take m.toNat).length : Int) = m := by
        have h2 := hd.le
        by_cases hlt : ((lens (tabF l)).take m.toNat).length < m.toNat
        · have := hd.stop hlt; omega
        · omega
      have hk2 := level_took hd.st hpot (j := L) (by omega) hL
      rw [sumX_filt]
      have : totG l.length (fun i => if levQ G L i = true then rd t (i : Nat) else 0) = tookT G t L := by
        unfold tookT
        rw [hd.st.len]
        refine totG_congr fun i hi => ?_
        have hge := hpot.ge i hi
        unfold levQ upQ tagQ
        by_cases hu : G (2 * i + 2) < G (2 * i + 3)
        · simp [hu]
        · rw [if_neg hu, if_neg (show ¬ 31 + i = L by omega)]
          simp [hu]
      rw [this, hk2, hpm]
      omega
  have hb2 : (best l m.toNat : Int) ≤ bndR m R := by
    obtain ⟨o, g1, g2⟩ := best_put hl (k := m.toNat) (by omega)
    have := parts_bound hP g1
    rw [g2, show ((m.toNat : Nat) : Int) = m by omega] at this
    exact this
  refine ⟨R, ?_, hP, by omega, by omega, fun x hx => ?_⟩
  · unfold gap_Runs.f
    rw [open_fine h h0 h1, if_neg (by decide), e, Option.bind_some]
    simp only
    rw [e2, Option.bind_some, hR]
  · obtain ⟨y, rfl, hy⟩ := hP.run x hx
    rw [natsI_len]
    have := nodup_len l.length y (hy.1.imp fun h e => by omega) (fun a ha => hy.2 a ha)
    omega
end Go.Proofs.Ytmfonbonfhngnaa.Hand

/- Run comes to one of the longest runs, as long as there are lines. -/
namespace Go.Proofs.Ytmfonbonfhngnaa.Hand
set_option linter.unusedVariables false
set_option linter.unusedSimpArgs false
open Go.RowKit Go.Proofs.YtmfonbonfhngnaaW.PrintWords Go.Proofs.YtmfonbonfhngnaaW.PrintLast
set_option linter.unusedVariables false
set_option linter.unusedSimpArgs false

/-- the first one of the longest -/
theorem firstL_is (n : Nat) : ∀ (L : List (List Int)), L.length = n → L ≠ [] → ∃ j, ∃ h : j < L.length, (firstL L = L[j] ∨ (firstL L = [] ∧ L[j] = [])) ∧ (∀ i (hi : i < L.length), L[i].length ≤ L[j].length) ∧ ∀ i (hi : i < L.length), i < j → L[i].length < L[j].length := by
  induction n with
  | zero => intro L hn h; exact absurd (List.eq_nil_of_length_eq_zero hn) h
  | succ n ih =>
    intro L hn
    intro _
    have hne : L ≠ [] := by intro e; rw [e] at hn; simp at hn
    obtain ⟨x, hx⟩ : ∃ x, x = L.getLast hne := ⟨_, rfl⟩
    have hL : L = L.dropLast ++ [x] := by rw [hx, List.dropLast_concat_getLast hne]
    have hdl : L.dropLast.length = n := by rw [List.length_dropLast, hn]; rfl
    obtain ⟨M, hM⟩ : ∃ M, M = L.dropLast := ⟨_, rfl⟩
    rw [← hM] at hL hdl
    clear hM hx hne
    subst hL
    rw [firstL_snoc]
    by_cases hM : M = []
    · subst hM
      refine ⟨0, by simp, .inl ?_, fun i hi => ?_, fun i hi h => absurd h (Nat.not_lt_zero _)⟩
      · simp only [firstL, List.foldl, longS, List.nil_append, List.getElem_cons_zero]
        cases x <;> simp
      · have : i = 0 := by simp at hi; omega
        subst this; exact Nat.le_refl _
    · obtain ⟨j, hj, h1, h2, h3⟩ := ih M hdl hM
      have hlen : (firstL M).length = M[j].length := by
        rcases h1 with h1 | ⟨h1, h1'⟩ <;> rw [h1]
        rw [h1']
      have hget : ∀ i (hi : i < (M ++ [x]).length) (h : i < M.length), (M ++ [x])[i] = M[i] := fun i hi h => List.getElem_append_left h
      have hlast : (M ++ [x])[M.length]'(by simp) = x := by simp
      unfold longS
      by_cases hc : (firstL M).length < x.length
      · rw [if_pos hc]
        refine ⟨M.length, by simp, .inl hlast.symm, fun i hi => ?_, fun i hi h => ?_⟩
        · rw [hlast]
          by_cases h : i < M.length
          · rw [hget i hi h]; have := h2 i h; omega
          · have : i = M.length := by simp at hi; omega
            subst this; rw [hlast]; exact Nat.le_refl _
        · rw [hlast, hget i hi h]
          have := h2 i h; omega
      · rw [if_neg hc]
        refine ⟨j, by simp; omega, ?_, fun i hi => ?_, fun i hi h => ?_⟩
        · rw [hget j (by simp; omega) hj]; exact h1
        · rw [hget j (by simp; omega) hj]
          by_cases h : i < M.length
          · rw [hget i hi h]; exact h2 i h
          · have : i = M.length := by simp at hi; omega
            subst this; rw [hlast]; omega
        · rw [hget j (by simp; omega) hj, hget i hi (by omega)]
          exact h3 i (by omega) h
theorem firstL_get {L : List (List Int)} (hne : L ≠ []) : ∃ j, ∃ h : j < L.length, firstL L = L[j] ∧ (∀ i (hi : i < L.length), L[i].length ≤ L[j].length) ∧ ∀ i (hi : i < L.length), i < j → L[i].length < L[j].length := by
  obtain ⟨j, hj, h1, h2, h3⟩ := firstL_is L.length L rfl hne
  refine ⟨j, hj, ?_, h2, h3⟩
  rcases h1 with h1 | ⟨h1, h1'⟩
  · exact h1
  · rw [h1, h1']
/-- which logs may stand behind one in a run -/
def belowB (l : List Int) (i k : Nat) : Bool := decide (i < k) && decide (rd l (k : Nat) < rd l (i : Nat))
def candL (l : List Int) (i : Nat) : List Nat := (List.range l.length).filter (belowB l i)
theorem restTo_is (l : List Int) (b : List (List Int)) (i : Nat) : restTo l b i l.length = (candL l i).map fun k => b.getD k [] := rfl
/-- the longest run from each log on -/
structure BestI (l : List Int) (i : Nat) (b : List (List Int)) : Prop where
  len : b.length = l.length
  best : ∀ k, i ≤ k → k < l.length → ∃ y, b.getD k [] = natsI (k :: y) ∧ RunN l (k :: y) ∧ ∀ z, RunN l (k :: z) → z.length ≤ y.length
  step : ∀ k, i ≤ k → k < l.length → b.getD k [] = (k : Int) :: firstL ((candL l k).map fun q => b.getD q [])
theorem cand_mem {l : List Int} {i k : Nat} : k ∈ candL l i ↔ k < l.length ∧ i < k ∧ rd l (k : Nat) < rd l (i : Nat) := by
  unfold candL belowB
  rw [List.mem_filter, List.mem_range, Bool.and_eq_true, decide_eq_true_eq, decide_eq_true_eq]
theorem runN_cons {l : List Int} {i k : Nat} {z : List Nat} (h : RunN l (i :: k :: z)) : k ∈ candL l i ∧ RunN l (k :: z) := by
  obtain ⟨h1, h2⟩ := List.pairwise_cons.1 h.1
  have h3 := h1 k List.mem_cons_self
  exact ⟨cand_mem.2 ⟨h.2 k (by simp), h3.1, h3.2⟩, h2, fun a ha => h.2 a (List.mem_cons_of_mem _ ha)⟩
theorem runN_add {l : List Int} {i k : Nat} {y : List Nat} (hi : i < l.length) (hk : k ∈ candL l i) (h : RunN l (k :: y)) : RunN l (i :: k :: y) := by
  obtain ⟨c1, c2, c3⟩ := cand_mem.1 hk
  refine ⟨List.pairwise_cons.2 ⟨fun a ha => ?_, h.1⟩, fun a ha => ?_⟩
  · rcases List.mem_cons.1 ha with rfl | ha
    · exact ⟨c2, c3⟩
    · have := (List.pairwise_cons.1 h.1).1 a ha
      exact ⟨by omega, by omega⟩
  · rcases List.mem_cons.1 ha with rfl | ha
    · exact hi
    · exact h.2 a ha
theorem best_go {l : List Int} : ∀ (i : Nat) (b : List (List Int)), i ≤ l.length → BestI l i b → BestI l 0 (bestN l i b)
  | 0, b, _, h => h
  | i + 1, b, hi, h => by
    rw [bestN]
    have hlt : i < l.length := by omega
    obtain ⟨x, hx⟩ : ∃ x, x = firstL (restTo l b i l.length) := ⟨_, rfl⟩
    rw [← hx]
    have g1 : (b.set i ((i : Int) :: x)).getD i [] = (i : Int) :: x := by
      rw [List.getD_eq_getElem?_getD, List.getElem?_set_self (by rw [h.len]; exact hlt)]; rfl
    have g2 : ∀ k, k ≠ i → (b.set i ((i : Int) :: x)).getD k [] = b.getD k [] := fun k hk => by
      rw [List.getD_eq_getElem?_getD, List.getElem?_set_ne (Ne.symm hk), ← List.getD_eq_getElem?_getD]
    have g3 : ∀ k, i ≤ k → (candL l k).map (fun q => (b.set i ((i : Int) :: x)).getD q []) = (candL l k).map fun q => b.getD q [] := fun k hk => by
      refine List.map_congr_left fun q hq => g2 q ?_
      have := cand_mem.1 hq
      omega
    refine best_go i _ (by omega) ⟨by rw [List.length_set]; exact h.len, fun k hk hkl => ?_, fun k hk hkl => ?_⟩
    · by_cases e : k = i
      · subst e
        rw [g1]
        rw [restTo_is] at hx
        by_cases hc : candL l k = []
        · rw [hc] at hx
          refine ⟨[], by rw [hx]; rfl, ⟨by simp, fun a ha => by
            obtain rfl : a = k := by simpa using ha
            exact hlt⟩, fun z hz => ?_⟩
          cases z with
          | nil => exact Nat.le_refl _
          | cons q z =>
            have := (runN_cons hz).1
            rw [hc] at this
            cases this
        · obtain ⟨j, hj, e1, e2, _⟩ := firstL_get (L := (candL l k).map fun q => b.getD q []) (by simpa using hc)
          rw [e1] at hx
          simp only [List.getElem_map] at hx e2
          rw [List.length_map] at hj
          have hq := List.getElem_mem hj
          obtain ⟨c1, c2, c3⟩ := cand_mem.1 hq
          obtain ⟨y, y1, y2, y3⟩ := h.best (candL l k)[j] (by omega) c1
          refine ⟨(candL l k)[j] :: y, by rw [hx, y1]; rfl, runN_add hlt hq y2, fun z hz => ?_⟩
          cases z with
          | nil => exact Nat.zero_le _
          | cons q z =>
            obtain ⟨r1, r2⟩ := runN_cons hz
            obtain ⟨d1, d2, d3⟩ := cand_mem.1 r1
            obtain ⟨y', w1, w2, w3⟩ := h.best q (by omega) d1
            have h4 := w3 z r2
            obtain ⟨p, hp, hpe⟩ := List.getElem_of_mem r1
            have h5 := e2 p (by rw [List.length_map]; exact hp)
            rw [hpe, w1, y1, natsI_len, natsI_len, List.length_cons, List.length_cons] at h5
            simp only [List.length_cons]; omega
      · rw [g2 k e]; exact h.best k (by omega) hkl
    · rw [g3 k hk]
      by_cases e : k = i
      · subst e; rw [g1, hx, restTo_is]
      · rw [g2 k e]; exact h.step k (by omega) hkl
theorem best_all_is (l : List Int) : BestI l 0 (bestN l l.length (List.replicate l.length [])) :=
  best_go l.length _ (Nat.le_refl _) ⟨by simp, fun k hk hkl => by omega, fun k hk hkl => by omega⟩
theorem longest_run {l : List Int} (h : l.length ≠ 0) : ∃ y, RunN l y ∧ y.length = lines l ∧ y ≠ [] ∨ 30 < l.length := by
  by_cases hl : l.length ≤ 30
  · obtain ⟨last, hp⟩ := place_is l
    have hll := hp.lines hl
    have h0 := hp.lt 0 (by omega)
    obtain ⟨⟨j, hj, e1, _⟩, _⟩ := hp.last (last.length - 1) (by omega)
    obtain ⟨y, y1, y2⟩ := hp.run (last.length - 1) j [] hj e1 ⟨by simp, fun a ha => by
      have : a = j := by simpa using ha
      omega⟩
    refine ⟨y, .inl ⟨y1, by rw [y2, ← hll]; simp; omega, fun e => by rw [e] at y2; simp at y2⟩⟩
  · exact ⟨[], .inr (by omega)⟩
/-- Run's run -/
theorem run_is {l : List Int} (h : rowE l = 0) : ∃ y, runV l = (natsI y, 0) ∧ RunN l y ∧ y.length = lines l := by
  obtain ⟨hl, _⟩ := row_zero h
  have hB := best_all_is l
  unfold runV
  rw [if_neg (by omega)]
  obtain ⟨b, hb⟩ : ∃ b, b = bestN l l.length (List.replicate l.length []) := ⟨_, rfl⟩
  rw [← hb] at hB ⊢
  by_cases h0 : l.length = 0
  · have : b = [] := List.eq_nil_of_length_eq_zero (by rw [hB.len, h0])
    rw [this]
    have := lines_le_len l
    exact ⟨[], rfl, ⟨by simp, fun a ha => by cases ha⟩, by simp; omega⟩
  · obtain ⟨j, hj, e1, e2, _⟩ := firstL_get (L := b) (by intro e; rw [e] at hB; exact h0 hB.len.symm)
    have hjl : j < l.length := by rw [← hB.len]; exact hj
    obtain ⟨y, y1, y2, y3⟩ := hB.best j (Nat.zero_le _) hjl
    rw [List.getD_eq_getElem?_getD, List.getElem?_eq_getElem hj, Option.getD_some] at y1
    refine ⟨j :: y, by rw [e1, y1], y2, ?_⟩
    obtain ⟨out, o1, o2⟩ := lines_put hl
    have h1 := run_le o1 o2 y2
    obtain ⟨z, hz⟩ := longest_run h0
    rcases hz with ⟨z1, z2, z3⟩ | hz
    · cases z with
      | nil => exact absurd rfl z3
      | cons k z =>
        have hk := z1.2 k List.mem_cons_self
        obtain ⟨y', w1, w2, w3⟩ := hB.best k (Nat.zero_le _) hk
        have hkb : k < b.length := by rw [hB.len]; exact hk
        rw [List.getD_eq_getElem?_getD, List.getElem?_eq_getElem hkb, Option.getD_some] at w1
        have h5 := e2 k hkb
        rw [w1, y1, natsI_len, natsI_len, List.length_cons, List.length_cons] at h5
        have := w3 z z1
        simp only [List.length_cons] at z2 h1 ⊢; omega
    · omega
end Go.Proofs.Ytmfonbonfhngnaa.Hand

/- Texts of the claim, joined: HFamP, HFamQ. -/
import Derived.Test.YtbhcchhhpmlpmaaHBitL
import Derived.Test.YtbhcchhhpmlpmaaHRefG
import Derived.Test.YtbhcchhhpmlpmaaHLaws
import Derived.Test.YtbhcchhhpmlpmaaPrE1
/- MarkFamily in plain numbers: what is asked for by numbers, and what the greatest family says of other ones. -/
namespace Go.Proofs.Ytbhcchhhpmlpmaa.Hand
set_option linter.unusedVariables false
set_option linter.unusedSimpArgs false
open Go.RowKit Go.Proofs.YtbhcchhhpmlpmaaW.PrintWords Go.Proofs.YtbhcchhhpmlpmaaW.PrintLast Go.Proofs.YtbhcchhhpmlpmaaW.PrintMore Go.Proofs.Ytbhcchhhpmlpmaa.PrA Go.Proofs.Ytbhcchhhpmlpmaa.PrR Go.Proofs.Ytbhcchhhpmlpmaa.PrC Go.Proofs.Ytbhcchhhpmlpmaa.PrE

/-- marks by numbers -/
def numN (a0 : Int) (by_ : List Int) : List Int := (by_.take 12).map fun x => 1 + x % allN a0
theorem numN_length (a0 : Int) (by_ : List Int) : (numN a0 by_).length ≤ 12 := by rw [numN, List.length_map, List.length_take]; omega
theorem numbers_loop {a0 : Int} (a1 : Int) (l by_ : List Int) (h1 : 1 ≤ a0) (h2 : a0 ≤ 10) (hb : ∀ x ∈ by_, 0 ≤ x ∧ x ≤ 65535) : ∀ (d i : Nat), i + d = min 12 by_.length → ∀ k, d < k →
    peaveylaw01_numbers.l0 k by_ ((by_.take i).map fun x => 1 + x % allN a0) (i : Int) a0 a1 l = some (numN a0 by_) := by
  have hp := allN_pos h1
  have ha := allN_lt h2
  intro d
  induction d with
  | zero =>
    intro i hi k hk
    obtain ⟨k, rfl⟩ : ∃ j, k = j + 1 := ⟨k - 1, by omega⟩
    have e : by_.take i = by_.take 12 := by
      rcases Nat.le_total 12 by_.length with h | h
      · rw [show i = 12 by omega]
      · rw [List.take_of_length_le (by omega), List.take_of_length_le h]
    rw [peaveylaw01_numbers.l0, e]
    by_cases h : (i : Int) < (by_.length : Int)
    · rw [if_pos h, if_neg (by omega)]; rfl
    · rw [if_neg h]; rfl
  | succ d ih =>
    intro i hi k hk
    obtain ⟨k, rfl⟩ : ∃ j, k = j + 1 := ⟨k - 1, by omega⟩
    have hil : i < by_.length := by omega
    have hx := hb by_[i] (List.getElem_mem hil)
    have hn := ih (i + 1) (by omega) k (by omega)
    rw [← List.take_append_getElem hil, List.map_append, List.map_cons, List.map_nil] at hn
    have h3 := Int.emod_nonneg by_[i] (show allN a0 ≠ 0 by omega)
    have h4 := Int.emod_lt_of_pos by_[i] (show 0 < allN a0 by omega)
    rw [peaveylaw01_numbers.l0, if_pos (by omega), if_pos (by omega), if_pos (by omega), refAll_is a1 l h1 h2, Option.bind_some, if_neg (by omega), if_pos (by rw [List.length_map, List.length_take]; omega), rd_nth hil, w64 (n := by_[i]) (by omega), Int.tmod_eq_emod_of_nonneg hx.1, w64 (n := 1 + by_[i] % allN a0) (by omega), wsucc i (by omega)]
    exact hn
theorem numbers_is {a0 : Int} (a1 : Int) (l by_ : List Int) (h1 : 1 ≤ a0) (h2 : a0 ≤ 10) (hb : ∀ x ∈ by_, 0 ≤ x ∧ x ≤ 65535) : peaveylaw01_numbers.f 20 a0 a1 l by_ = some (numN a0 by_) :=
  numbers_loop a1 l by_ h1 h2 hb (min 12 by_.length) 0 (by omega) 20 (by omega)
theorem asked_take {a0 a1 : Int} {l marks : List Int} (h : askedN a0 a1 l marks = 0) (m : Nat) : askedN a0 a1 l (marks.take m) = 0 := by
  obtain ⟨ho, h12, hany⟩ := asked_zero h
  unfold askedN
  rw [if_neg (fun g => g ho), if_neg (by rw [List.length_take]; omega), if_neg]
  intro g
  obtain ⟨x, hx, hg⟩ := List.any_eq_true.1 g
  have := List.any_eq_false.1 hany x (List.mem_of_mem_take hx)
  exact this hg
theorem asked_nums {a0 a1 : Int} {l by_ : List Int} (ho : officeN a0 a1 l = 0) (hb : ∀ x ∈ by_, 0 ≤ x ∧ x ≤ 65535) : askedN a0 a1 l (numN a0 by_) = 0 := by
  have hz := office_zero ho
  have hp := allN_pos hz.1
  unfold askedN
  rw [if_neg (fun g => g ho), if_neg (by have := numN_length a0 by_; omega), if_neg]
  intro g
  obtain ⟨x, hx, hg⟩ := List.any_eq_true.1 g
  unfold numN at hx
  obtain ⟨y, hy, rfl⟩ := List.mem_map.1 hx
  have h3 := Int.emod_nonneg y (show allN a0 ≠ 0 by omega)
  have h4 := Int.emod_lt_of_pos y (show 0 < allN a0 by omega)
  simp [outB] at hg
  omega

/-- does a list come before another one? -/
def bl : List Nat → List Nat → Bool
  | x :: u, y :: t => if x = y then bl u t else decide (x < y)
  | _, _ => false
theorem before_loop (u t : List Nat) (hl : u.length = t.length) (hb : u.length ≤ 10000) : ∀ (d i : Nat), i + d = u.length → ∀ k, d < k → peaveylaw01_before.l0 k (ints u) (ints t) (i : Int) = some (bl (u.drop i) (t.drop i)) := by
  intro d
  induction d with
  | zero =>
    intro i hi k hk
    obtain ⟨k, rfl⟩ : ∃ j, k = j + 1 := ⟨k - 1, by omega⟩
    rw [peaveylaw01_before.l0, if_neg (by rw [ints_length]; omega), List.drop_eq_nil_of_le (by omega)]; rfl
  | succ d ih =>
    intro i hi k hk
    obtain ⟨k, rfl⟩ : ∃ j, k = j + 1 := ⟨k - 1, by omega⟩
    have h1 : i < u.length := by omega
    have h2 : i < t.length := by omega
    have e1 : rd (ints u) (i : Int) = (u[i] : Int) := by rw [rd_nth (by rw [ints_length]; exact h1)]; simp [ints]
    have e2 : rd (ints t) (i : Int) = (t[i] : Int) := by rw [rd_nth (by rw [ints_length]; exact h2)]; simp [ints]
    rw [peaveylaw01_before.l0, if_pos (by rw [ints_length]; omega), if_pos (by omega), if_pos (by rw [ints_length]; omega), e1, e2, wsucc i (by omega), ih (i + 1) (by omega) k (by omega), List.drop_eq_getElem_cons h1, List.drop_eq_getElem_cons h2, bl]
    by_cases e : u[i] = t[i]
    · rw [if_pos (by omega), if_pos e]
    · rw [if_neg (by omega), if_neg e]
      congr 1
      rw [Bool.eq_iff_iff, decide_eq_true_eq, decide_eq_true_eq]; omega
theorem before_is (u t : List Nat) (hl : u.length = t.length) (hb : u.length ≤ 100) : peaveylaw01_before.f 200 (ints u) (ints t) = some (bl u t) :=
  before_loop u t hl (by omega) u.length 0 (by omega) 200 (by omega)
theorem bl_lo {n : Nat} : ∀ {u t : List Nat} {i : Nat}, Incr n i u → Incr n i t → (u = t ∨ Lo t u) → bl u t = false
  | [], _, _, _, _, _ => by cases ‹List Nat› <;> rfl
  | _ :: _, [], _, _, _, _ => rfl
  | x :: u, y :: t, i, hu, ht, h => by
    obtain ⟨u1, u2, u3⟩ := hu
    obtain ⟨t1, t2, t3⟩ := ht
    rw [bl]
    by_cases e : x = y
    · subst e
      rw [if_pos rfl]
      refine bl_lo u3 t3 ?_
      rcases h with h | ⟨j, j1, j2, j3⟩
      · left; cases h; rfl
      · right
        have hjx : j ≠ x := fun e => j2 (by rw [e]; exact List.mem_cons_self)
        refine ⟨j, (List.mem_cons.1 j1).resolve_left hjx, fun g => j2 (List.mem_cons_of_mem _ g), fun k hk => ?_⟩
        have h3 := j3 k hk
        rw [List.mem_cons, List.mem_cons] at h3
        by_cases ek : k = x
        · subst ek
          constructor
          · intro g; have := incr_ge t3 k g; omega
          · intro g; have := incr_ge u3 k g; omega
        · constructor
          · intro g; exact (h3.1 (.inr g)).resolve_left ek
          · intro g; exact (h3.2 (.inr g)).resolve_left ek
    · rw [if_neg e]
      refine decide_eq_false fun hlt => ?_
      rcases h with h | ⟨j, j1, j2, j3⟩
      · cases h; exact e rfl
      · have hj : y ≤ j := by
          rcases List.mem_cons.1 j1 with g | g
          · omega
          · have := incr_ge t3 j g; omega
        have := (j3 x (by omega)).2 List.mem_cons_self
        rcases List.mem_cons.1 this with g | g
        · omega
        · have := incr_ge t3 x g; omega

theorem goodE_all (J : List Int → Nat → Bool) : ∀ (t : List Nat) (b : List Int), goodE J b t = true ↔ ∀ k, (h : k < t.length) → J (b ++ ints (t.take k)) t[k] = true
  | [], b => by simp [goodE]
  | x :: t, b => by
    rw [goodE, Bool.and_eq_true, goodE_all J t]
    constructor
    · rintro ⟨h1, h2⟩ k hk
      match k with
      | 0 => simpa [ints] using h1
      | k + 1 =>
        have := h2 k (by simpa using hk)
        rw [List.append_assoc] at this
        exact this
    · intro h
      refine ⟨by have := h 0 (by simp); simpa only [ints, List.take_zero, List.map_nil, List.append_nil, List.getElem_cons_zero] using this, fun k hk => ?_⟩
      have := h (k + 1) (by simpa using hk)
      rw [List.append_assoc]
      exact this
theorem famJoin_all (a1 : Int) (l marks fam : List Int) : ∀ m, famJoin a1 l marks fam m = true ↔ ∀ k, k < m → joinsB a1 l marks (fam.take k) (rd fam (k : Int)).toNat = true
  | 0 => by simp [famJoin]
  | m + 1 => by
    rw [famJoin, Bool.and_eq_true, famJoin_all a1 l marks fam m]
    constructor
    · intro ⟨h1, h2⟩ k hk
      by_cases e : k = m
      · rw [e]; exact h2
      · exact h1 k (by omega)
    · intro h1
      exact ⟨fun k hk => h1 k (by omega), h1 m (by omega)⟩
theorem okFrom_incr {n : Nat} : ∀ {u : List Nat} {i : Nat}, Incr n i u → okFrom (n : Int) (i : Int) (ints u) = true
  | [], _, _ => rfl
  | x :: u, i, ⟨h1, h2, h3⟩ => by
    rw [ints_cons, List.singleton_append, okFrom, show ((x : Int) + 1) = ((x + 1 : Nat) : Int) by omega, okFrom_incr h3, show outB (i : Int) ((n : Int) - 1) (x : Int) = false by simp [outB]; omega]; rfl
/-- a set is a family just if its indexes may be joined -/
theorem famN_good {a0 a1 : Int} {l marks : List Int} (h0 : askedN a0 a1 l marks = 0) {u : List Nat} (hu : Incr marks.length 0 u) : famN a0 a1 l marks (ints u) = if goodE (joinsB a1 l marks) [] u = true then 0 else 17 := by
  have hj : famJoin a1 l marks (ints u) (ints u).length = true ↔ goodE (joinsB a1 l marks) [] u = true := by
    rw [famJoin_all, goodE_all, ints_length]
    have e : ∀ k, (h : k < u.length) → (rd (ints u) (k : Int)).toNat = u[k] := fun k h => by rw [rd_nth (by rw [ints_length]; exact h)]; simp [ints]
    have e2 : ∀ k, (ints u).take k = ints (u.take k) := fun k => by simp [ints, List.map_take]
    constructor
    · intro h k hk
      have := h k hk
      rw [e k hk, e2] at this
      exact this
    · intro h k hk
      rw [e k hk, e2]
      exact h k hk
  unfold famN
  rw [if_neg (fun g => g h0), if_pos (show okFrom (marks.length : Int) 0 (ints u) = true from okFrom_incr hu)]
  by_cases hg : goodE (joinsB a1 l marks) [] u = true
  · rw [if_pos (hj.2 hg), if_pos hg]
  · rw [if_neg (fun h => hg (hj.1 h)), if_neg hg]
end Go.Proofs.Ytbhcchhhpmlpmaa.Hand

/- MarkFamily in plain numbers: all together are apart; one mark fewer. -/
namespace Go.Proofs.Ytbhcchhhpmlpmaa.Hand
set_option linter.unusedVariables false
set_option linter.unusedSimpArgs false
open Go.RowKit Go.Proofs.YtbhcchhhpmlpmaaW.PrintWords Go.Proofs.YtbhcchhhpmlpmaaW.PrintLast Go.Proofs.YtbhcchhhpmlpmaaW.PrintMore Go.Proofs.Ytbhcchhhpmlpmaa.PrA Go.Proofs.Ytbhcchhhpmlpmaa.PrR Go.Proofs.Ytbhcchhhpmlpmaa.PrC Go.Proofs.Ytbhcchhhpmlpmaa.PrE

theorem mk_left {l p : List Int} {i : Nat} (h : i < l.length) : mk (l ++ p) i = mk l i := by
  unfold mk rd; simp [List.getElem?_append_left h]
theorem mk_right {l p : List Int} {i : Nat} (h : l.length ≤ i) : mk (l ++ p) i = mk p (i - l.length) := by
  unfold mk rd; simp [List.getElem?_append_right h]
theorem ints_in {n i : Nat} {t : List Nat} (h : Incr n i t) : ∀ x ∈ ints t, 0 ≤ x ∧ x < (n : Int) := by
  intro x hx
  unfold ints at hx
  obtain ⟨y, hy, rfl⟩ := List.mem_map.1 hx
  have := incr_ge h y hy
  omega
theorem good_join {a0 a1 : Int} {l marks : List Int} (h0 : askedN a0 a1 l marks = 0) {u : List Nat} (hu : Incr marks.length 0 u) (hg : goodE (joinsB a1 l marks) [] u = true) : famJoin a1 l marks (ints u) (ints u).length = true := by
  have h := famN_good h0 hu
  rw [if_pos hg] at h
  unfold famN at h
  rw [if_neg (fun g => g h0), if_pos (show okFrom (marks.length : Int) 0 (ints u) = true from okFrom_incr hu)] at h
  by_cases hj : famJoin a1 l marks (ints u) (ints u).length = true
  · exact hj
  · rw [if_neg hj] at h; omega
/-- the marks of a family, put behind those of the office, are apart with them -/
theorem all_apart {a0 a1 : Int} {l marks : List Int} (h0 : askedN a0 a1 l marks = 0) (hp : pairN l a1 = none) {t : List Nat} (ht : Incr marks.length 0 t) (hg : goodE (joinsB a1 l marks) [] t = true) (h12 : l.length + t.length ≤ 12) :
    officeN a0 a1 (l ++ (ints t).map (rd marks)) = 0 ∧ pairN (l ++ (ints t).map (rd marks)) a1 = none := by
  obtain ⟨ho, _, hm, hr⟩ := asked_marks h0
  have hz := office_zero ho
  have hin := ints_in ht
  have hlen : ((ints t).map (rd marks)).length = t.length := by rw [List.length_map, ints_length]
  obtain ⟨j1, j2⟩ := (famJoin_iff h0 hin).1 (good_join h0 ht hg)
  have hmk : ∀ k, k < t.length → mk ((ints t).map (rd marks)) k = mk marks (rd (ints t) (k : Int)).toNat ∧ (rd (ints t) (k : Int)).toNat < marks.length := by
    intro k hk
    have hk' : k < (ints t).length := by rw [ints_length]; exact hk
    have hx := hin (ints t)[k] (List.getElem_mem hk')
    rw [← rd_nth hk'] at hx
    refine ⟨?_, by omega⟩
    have e : rd ((ints t).map (rd marks)) (k : Int) = rd marks (rd (ints t) (k : Int)) := by
      rw [rd_nth (l := (ints t).map (rd marks)) (by rw [hlen]; exact hk), List.getElem_map, rd_nth hk']
    unfold mk
    rw [e, show (((rd (ints t) (k : Int)).toNat : Nat) : Int) = rd (ints t) (k : Int) by omega]
  constructor
  · unfold officeN
    rw [show outB 1 10 a0 = false by simp [outB]; omega, show outB 0 a0 a1 = false by simp [outB]; omega, Bool.or_false, if_neg (by simp), if_neg (by rw [List.length_append, hlen]; omega), if_neg]
    intro g
    obtain ⟨x, hx, hxo⟩ := List.any_eq_true.1 g
    rcases List.mem_append.1 hx with h | h
    · have := hz.2.2.2.2.2 x h
      simp [outB] at hxo; omega
    · obtain ⟨y, hy, rfl⟩ := List.mem_map.1 h
      have hy2 := hin y hy
      obtain ⟨i, hi⟩ := Int.eq_ofNat_of_zero_le hy2.1
      rw [hi] at hxo hy2
      have h1 := (hm i (by omega)).1
      have h2 := hr i (by omega)
      rw [h1] at hxo
      simp [outB] at hxo; omega
  · rw [pairN_none] at hp j2 ⊢
    rw [hlen] at j2
    intro i k hik hk
    rw [List.length_append, hlen] at hk
    unfold clN
    by_cases hkl : k < l.length
    · rw [mk_left (by omega), mk_left hkl]; exact hp i k hik hkl
    · by_cases hil : i < l.length
      · rw [mk_left hil, mk_right (by omega)]
        have h1 := hmk (k - l.length) (by omega)
        have h2 := j1 (k - l.length) (by rw [ints_length]; omega)
        rw [h1.1, farN_comm]
        exact decide_eq_false ((freeN_iff ho (hm _ h1.2).2).1 h2 i hil)
      · rw [mk_right (by omega), mk_right (by omega)]
        exact j2 (i - l.length) (k - l.length) (by omega) (by omega)
theorem rd_take {l : List Int} {m i : Nat} (h : i < m) : rd (l.take m) (i : Int) = rd l (i : Int) := by
  unfold rd; simp [List.getD_eq_getElem?_getD, List.getElem?_take, h]
theorem joins_take (a1 : Int) (l marks : List Int) {m x : Nat} (b : List Nat) (hx : x < m) (hb : ∀ y ∈ b, y < m) : joinsB a1 l (marks.take m) (ints b) x = joinsB a1 l marks (ints b) x := by
  have key : ∀ z ∈ ints b, famClash a1 (marks.take m) x z = famClash a1 marks x z := by
    intro z hz
    unfold ints at hz
    obtain ⟨y, hy, rfl⟩ := List.mem_map.1 hz
    unfold famClash
    rw [rd_take hx, rd_take (hb y hy)]
  have hany : (ints b).any (famClash a1 (marks.take m) x) = (ints b).any (famClash a1 marks x) := by
    rw [Bool.eq_iff_iff, List.any_eq_true, List.any_eq_true]
    constructor
    · rintro ⟨z, h1, h2⟩; exact ⟨z, h1, (key z h1).symm.trans h2⟩
    · rintro ⟨z, h1, h2⟩; exact ⟨z, h1, (key z h1).trans h2⟩
  unfold joinsB
  rw [rd_take hx, hany]
theorem goodE_take (a1 : Int) (l marks : List Int) (m : Nat) (t : List Nat) : ∀ (b : List Nat), (∀ x ∈ t, x < m) → (∀ x ∈ b, x < m) → goodE (joinsB a1 l (marks.take m)) (ints b) t = goodE (joinsB a1 l marks) (ints b) t := by
  induction t with
  | nil => intro b _ _; rw [goodE, goodE]
  | cons x t ih =>
    intro b ht hb
    have hx := ht x List.mem_cons_self
    have ih := ih (b ++ [x]) (fun y hy => ht y (List.mem_cons_of_mem _ hy)) (fun y hy => by
      rcases List.mem_append.1 hy with h | h
      · exact hb y h
      · rw [List.mem_singleton.1 h]; exact hx)
    rw [show ints (b ++ [x]) = ints b ++ [(x : Int)] by simp [ints]] at ih
    have hj := joins_take a1 l marks b hx hb
    rw [goodE, goodE, ih, hj]
theorem incr_init {m : Nat} : ∀ {t : List Nat} {i : Nat}, Incr (m + 1) i t → Incr m i (t.take (t.length - 1))
  | [], _, _ => trivial
  | [_], _, _ => trivial
  | x :: y :: t, i, ⟨h1, h2, h3, h4, h5⟩ => by
    have ih := incr_init (m := m) (t := y :: t) (i := x + 1) ⟨h3, h4, h5⟩
    rw [show (x :: y :: t).take ((x :: y :: t).length - 1) = x :: (y :: t).take ((y :: t).length - 1) by simp]
    exact ⟨h1, by omega, ih⟩
theorem incr_more {m n : Nat} (hmn : m ≤ n) : ∀ {t : List Nat} {i : Nat}, Incr m i t → Incr n i t
  | [], _, _ => trivial
  | _ :: _, _, ⟨h1, h2, h3⟩ => ⟨h1, by omega, incr_more hmn h3⟩
/-- with one mark fewer that is asked for, the greatest family has no more, and at most one fewer -/
theorem one_fewer {a1 : Int} {l marks : List Int} {m : Nat} (hm : marks.length = m + 1) {t u : List Nat} (ht : FirstG (joinsB a1 l marks) marks.length 0 [] t) (hu : FirstG (joinsB a1 l (marks.take m)) (marks.take m).length 0 [] u) :
    u.length ≤ t.length ∧ t.length ≤ u.length + 1 := by
  have hml : (marks.take m).length = m := by rw [List.length_take]; omega
  rw [hml] at hu
  obtain ⟨t1, t2, t3⟩ := ht
  obtain ⟨u1, u2, u3⟩ := hu
  rw [hm] at t1 t3
  constructor
  · have hin : ∀ x ∈ u, x < m := fun x hx => (incr_ge u1 x hx).2
    have hg := goodE_take a1 l marks m u [] hin (by simp)
    rw [show ints [] = ([] : List Int) from rfl, u2] at hg
    rcases t3 u (incr_more (by omega) u1) hg.symm with h | ⟨h, _⟩ <;> omega
  · have h1 := incr_init t1
    have hin : ∀ x ∈ t.take (t.length - 1), x < m := fun x hx => (incr_ge h1 x hx).2
    have hg := goodE_take a1 l marks m (t.take (t.length - 1)) [] hin (by simp)
    have h2 : goodE (joinsB a1 l marks) [] (t.take (t.length - 1)) = true := by
      rw [goodE_all] at t2 ⊢
      intro k hk
      rw [List.length_take] at hk
      have := t2 k (by omega)
      rw [List.take_take, show min k (t.length - 1) = k by omega, List.getElem_take]
      exact this
    rw [show ints [] = ([] : List Int) from rfl, h2] at hg
    have hlen : (t.take (t.length - 1)).length = t.length - 1 := by rw [List.length_take]; omega
    rcases u3 _ h1 hg with h | ⟨h, _⟩ <;> omega
end Go.Proofs.Ytbhcchhhpmlpmaa.Hand

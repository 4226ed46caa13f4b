/- The reference's Family is the program's: both are the first one of the greatest families. -/
import Derived.Test.YtbhcchhhpmlpmaaHRefL
namespace Go.Proofs.Ytbhcchhhpmlpmaa.Hand
set_option linter.unusedVariables false
set_option linter.unusedSimpArgs false
open Go.RowKit Go.Proofs.YtbhcchhhpmlpmaaW.PrintWords Go.Proofs.YtbhcchhhpmlpmaaW.PrintLast Go.Proofs.YtbhcchhhpmlpmaaW.PrintMore Go.Proofs.Ytbhcchhhpmlpmaa.PrA Go.Proofs.Ytbhcchhhpmlpmaa.PrR Go.Proofs.Ytbhcchhhpmlpmaa.PrT Go.Proofs.Ytbhcchhhpmlpmaa.PrV Go.Proofs.Ytbhcchhhpmlpmaa.PrW Go.Proofs.Ytbhcchhhpmlpmaa.PrY Go.Proofs.Ytbhcchhhpmlpmaa.PrZ

/-- the best set after so many more -/
def fin (n : Nat) (c : Nat → Nat) (b s : Nat) : Nat → Nat
  | 0 => b
  | m + 1 => fin n c (updS n c b s) (s + 1) m
theorem upd_or (n : Nat) (c : Nat → Nat) (b s : Nat) : updS n c b s = s ∨ updS n c b s = b := by
  unfold updS; split
  · exact .inl rfl
  · exact .inr rfl
theorem fam_loop {marks cl : List Int} {c : Nat → Nat} (hn : marks.length ≤ 12) (hcl : cl.length = marks.length) (hc : ∀ i, i < marks.length → rd cl (i : Int) = (c i : Int) ∧ c i < 4096) (k : Nat) :
    ∀ (m s b : Nat), s + m = 2 ^ marks.length → b < 2 ^ marks.length → peaveyref01_Family.l0 (m * (marks.length + 2) + (k + 21)) marks cl (b : Int) (s : Int) = some (ints (setFrom (fin marks.length c b s m) marks.length 0), 0) := by
  intro m
  induction m with
  | zero =>
    intro s b hs hb
    rw [Nat.zero_mul, Nat.zero_add, peaveyref01_Family.l0, shl_pow hn, if_neg (by omega), refBits_is hn hb (by omega), Option.bind_some]; rfl
  | succ m ih =>
    intro s b hs hb
    have hs' : s < 2 ^ marks.length := by omega
    have hst := fam_step hn hcl hc hs' hb (k := m * (marks.length + 2) + (k + 21)) (by omega)
    rw [show (m + 1) * (marks.length + 2) + (k + 21) = marks.length + (m * (marks.length + 2) + (k + 21) + 1) + 1 by rw [Nat.succ_mul]; omega, hst]
    refine ih (s + 1) _ (by omega) ?_
    rcases upd_or marks.length c b s with h | h <;> rw [h] <;> assumption
/-- is a set no better than another one? -/
def BE (n b u : Nat) : Prop := (setFrom u n 0).length < (setFrom b n 0).length ∨ ((setFrom u n 0).length = (setFrom b n 0).length ∧ (u = b ∨ Lo (setFrom b n 0) (setFrom u n 0)))
theorem be_trans {n a b u : Nat} (h1 : BE n a b) (h2 : BE n b u) : BE n a u := by
  rcases h1 with h1 | ⟨h1, h1'⟩
  · rcases h2 with h2 | ⟨h2, _⟩ <;> exact .inl (by omega)
  · rcases h2 with h2 | ⟨h2, h2'⟩
    · exact .inl (by omega)
    · refine .inr ⟨by omega, ?_⟩
      rcases h1' with rfl | h1'
      · exact h2'
      · rcases h2' with rfl | h2'
        · exact .inr h1'
        · exact .inr (lo_trans h1' h2')
theorem upd_best {n : Nat} {c : Nat → Nat} (hn : n ≤ 12) {b s : Nat} (hb : b < 2 ^ n) (hs : s < 2 ^ n) (hg : goodF c b n 0 = true) :
    goodF c (updS n c b s) n 0 = true ∧ BE n (updS n c b s) b ∧ (goodF c s n 0 = true → BE n (updS n c b s) s) := by
  have rfl' : ∀ x, BE n x x := fun x => .inr ⟨rfl, .inl rfl⟩
  unfold updS
  cases hgs : goodF c s n 0
  · rw [Bool.false_and, if_neg (by simp)]
    exact ⟨hg, rfl' b, fun h => by cases h⟩
  · rw [Bool.true_and]
    by_cases h1 : (setFrom s n 0).length > (setFrom b n 0).length
    · rw [decide_eq_true h1, Bool.true_or, if_pos rfl]
      exact ⟨hgs, .inl h1, fun _ => rfl' s⟩
    · rw [decide_eq_false h1, Bool.false_or]
      by_cases h2 : (setFrom s n 0).length = (setFrom b n 0).length
      · rw [decide_eq_true h2, Bool.true_and]
        cases hl : lowF s b 12 0
        · rw [if_neg (by simp)]
          refine ⟨hg, rfl' b, fun _ => .inr ⟨h2, ?_⟩⟩
          by_cases e : s = b
          · exact .inl e
          · rcases low_total (set_lt hn hs) (set_lt hn hb) e with h | h
            · rw [hl] at h; cases h
            · exact .inr ((low_lo hn hb hs).1 h)
        · rw [if_pos rfl]
          exact ⟨hgs, .inr ⟨h2.symm, .inr ((low_lo hn hs hb).1 hl)⟩, fun _ => rfl' s⟩
      · rw [decide_eq_false h2, Bool.false_and, if_neg (by simp)]
        exact ⟨hg, rfl' b, fun _ => .inl (by omega)⟩
theorem fin_best {n : Nat} {c : Nat → Nat} (hn : n ≤ 12) : ∀ (m s b : Nat), s + m = 2 ^ n → b < 2 ^ n → goodF c b n 0 = true →
    fin n c b s m < 2 ^ n ∧ goodF c (fin n c b s m) n 0 = true ∧ BE n (fin n c b s m) b ∧ ∀ u, s ≤ u → u < 2 ^ n → goodF c u n 0 = true → BE n (fin n c b s m) u := by
  intro m
  induction m with
  | zero => intro s b hs hb hg; exact ⟨hb, hg, .inr ⟨rfl, .inl rfl⟩, fun u h1 h2 => by omega⟩
  | succ m ih =>
    intro s b hs hb hg
    obtain ⟨g1, g2, g3⟩ := upd_best hn hb (show s < 2 ^ n by omega) hg
    have hu : updS n c b s < 2 ^ n := by rcases upd_or n c b s with h | h <;> rw [h] <;> omega
    obtain ⟨f1, f2, f3, f4⟩ := ih (s + 1) _ (by omega) hu g1
    refine ⟨f1, f2, be_trans f3 g2, fun u h1 h2 h3 => ?_⟩
    by_cases e : u = s
    · subst e; exact be_trans f3 (g3 h3)
    · exact f4 u (by omega) h2 h3

/-- indexes may be joined just if their marks are free, and none clashes with another one -/
theorem goodE_iff {a0 a1 : Int} {l marks : List Int} (h0 : askedN a0 a1 l marks = 0) : ∀ (t b : List Nat), (∀ x ∈ t, x < marks.length) → (∀ x ∈ b, x < marks.length) →
    (goodE (joinsB a1 l marks) (ints b) t = true ↔ (∀ x ∈ t, freeN l a1 (mk marks x) = true) ∧ (∀ x ∈ t, ∀ y ∈ b, clN marks a1 x y = false) ∧ t.Pairwise fun x y => clN marks a1 x y = false) := by
  obtain ⟨ho, h12, hm, hr⟩ := asked_marks h0
  have hj : ∀ (b : List Nat) (x : Nat), x < marks.length → (∀ y ∈ b, y < marks.length) → (joinsB a1 l marks (ints b) x = true ↔ freeN l a1 (mk marks x) = true ∧ ∀ y ∈ b, clN marks a1 x y = false) := by
    intro b x hx hb
    rw [joinsB, Bool.and_eq_true, (hm x hx).1, Bool.not_eq_true' ((ints b).any _), List.any_eq_false]
    have h2 : (∀ z ∈ ints b, ¬ famClash a1 marks x z = true) ↔ ∀ y ∈ b, clN marks a1 x y = false := by
      have key : ∀ y, y ∈ b → famClash a1 marks x (y : Int) = clN marks a1 x y := fun y hy => by
        unfold famClash clashB clN
        rw [farI_mk hm hx (hb y hy)]
      constructor
      · intro h y hy
        have := h (y : Int) (by unfold ints; exact List.mem_map.2 ⟨y, hy, rfl⟩)
        rw [key y hy] at this; simpa using this
      · intro h z hz
        unfold ints at hz
        obtain ⟨y, hy, rfl⟩ := List.mem_map.1 hz
        rw [key y hy, h y hy]; simp
    rw [h2]; rfl
  intro t
  induction t with
  | nil => intro b _ _; simp [goodE]
  | cons x t ih =>
    intro b ht hb
    have hx := ht x List.mem_cons_self
    have hih := ih (b ++ [x]) (fun y hy => ht y (List.mem_cons_of_mem _ hy)) (fun y hy => by
      rcases List.mem_append.1 hy with h | h
      · exact hb y h
      · rw [List.mem_singleton.1 h]; exact hx)
    rw [ints_append] at hih
    rw [goodE, Bool.and_eq_true, hj b x hx hb]
    rw [show ints b ++ [(x : Int)] = ints b ++ ints [x] from rfl, hih, List.pairwise_cons]
    constructor
    · rintro ⟨⟨h1, h2⟩, h3, h4, h5⟩
      refine ⟨fun y hy => ?_, fun y hy z hz => ?_, fun y hy => ?_, h5⟩
      · rcases List.mem_cons.1 hy with rfl | h
        · exact h1
        · exact h3 y h
      · rcases List.mem_cons.1 hy with rfl | h
        · exact h2 z hz
        · exact h4 y h z (List.mem_append.2 (.inl hz))
      · rw [clN_comm]; exact h4 y hy x (List.mem_append.2 (.inr List.mem_cons_self))
    · rintro ⟨h1, h2, h3, h4⟩
      refine ⟨⟨h1 x List.mem_cons_self, fun y hy => h2 x List.mem_cons_self y hy⟩, fun y hy => h1 y (List.mem_cons_of_mem _ hy), fun y hy z hz => ?_, h4⟩
      rcases List.mem_append.1 hz with h | h
      · exact h2 y (List.mem_cons_of_mem _ hy) z h
      · rw [List.mem_singleton.1 h, clN_comm]; exact h3 y hy
theorem clashL_get (l : List Int) (a1 : Int) (marks : List Int) {i : Nat} : ∀ {n : Nat}, i < n → rd (clashL l a1 marks n) (i : Int) = (bitsTo (clC l a1 marks i) marks.length : Int)
  | n + 1, h => by
    have hl := clashL_length l a1 marks n
    rw [clashL]
    unfold rd
    rw [Int.toNat_natCast]
    by_cases e : i = n
    · subst e
      rw [List.getD_eq_getElem?_getD, List.getElem?_append_right (by omega), hl]; simp
    · rw [List.getD_eq_getElem?_getD, List.getElem?_append_left (by omega)]
      have := clashL_get l a1 marks (n := n) (i := i) (by omega)
      unfold rd at this
      rw [Int.toNat_natCast, List.getD_eq_getElem?_getD] at this
      exact this
theorem goodF_good {a0 a1 : Int} {l marks : List Int} (h0 : askedN a0 a1 l marks = 0) {s : Nat} (hs : s < 2 ^ marks.length) :
    goodF (fun i => bitsTo (clC l a1 marks i) marks.length) s marks.length 0 = true ↔ goodE (joinsB a1 l marks) [] (setFrom s marks.length 0) = true := by
  have hin : ∀ x ∈ setFrom s marks.length 0, x < marks.length := fun x hx => by have := setFrom_mem.1 hx; omega
  have hge := goodE_iff h0 (setFrom s marks.length 0) [] hin (by simp)
  rw [show ints [] = [] from rfl] at hge
  rw [hge, goodF_iff]
  have hz : ∀ j, (bitsTo (clC l a1 marks j) marks.length &&& s = 0 ↔ ∀ t, s.testBit t = true → clC l a1 marks j t = false) := by
    intro j
    constructor
    · intro h t ht
      have h1 : (bitsTo (clC l a1 marks j) marks.length &&& s).testBit t = false := by rw [h, Nat.zero_testBit]
      rw [Nat.testBit_and, ht, Bool.and_true, bitsTo_bit, decide_eq_true (bit_lt hs ht), Bool.true_and] at h1
      exact h1
    · intro h
      apply Nat.eq_of_testBit_eq
      intro t
      rw [Nat.testBit_and, Nat.zero_testBit, bitsTo_bit]
      cases hb : s.testBit t
      · rw [Bool.and_false]
      · rw [h t hb]; simp
  constructor
  · intro h
    refine ⟨fun x hx => ?_, (fun x _ y hy => by cases hy), ?_⟩
    · have hx' := (set_mem hs).1 hx
      have := (hz x).1 (h x (by omega) (by have := bit_lt hs hx'; omega) hx') x hx'
      rw [clC, if_pos rfl] at this
      simpa using this
    · have hinc : Incr marks.length 0 (setFrom s marks.length 0) := setFrom_incr (by omega)
      have hlt : (setFrom s marks.length 0).Pairwise (· < ·) := by
        have key : ∀ (t : List Nat) (i : Nat), Incr marks.length i t → t.Pairwise (· < ·) := by
          intro t
          induction t with
          | nil => intro i _; exact List.Pairwise.nil
          | cons x t ih =>
            rintro i ⟨h1, h2, h3⟩
            exact List.pairwise_cons.2 ⟨fun y hy => by have := incr_ge h3 y hy; omega, ih (x + 1) h3⟩
        exact key _ 0 hinc
      refine List.Pairwise.imp_of_mem (fun {x y} hx hy hxy => ?_) hlt
      have hx' := (set_mem hs).1 hx
      have hy' := (set_mem hs).1 hy
      have := (hz x).1 (h x (by omega) (by have := bit_lt hs hx'; omega) hx') y hy'
      rw [clC, if_neg (by omega)] at this
      exact this
  · rintro ⟨h1, _, h3⟩ j _ _ hj
    refine (hz j).2 fun t ht => ?_
    have hj' := (set_mem hs).2 hj
    have ht' := (set_mem hs).2 ht
    rw [clC]
    by_cases e : t = j
    · rw [if_pos e, h1 j hj']; rfl
    · rw [if_neg e]
      have hp := List.pairwise_iff_getElem.1 h3
      obtain ⟨p, hp1, hp2⟩ := List.getElem_of_mem hj'
      obtain ⟨q, hq1, hq2⟩ := List.getElem_of_mem ht'
      rcases Nat.lt_trichotomy p q with g | g | g
      · rw [← hp2, ← hq2]; exact hp p q hp1 hq1 g
      · subst g; rw [hp2] at hq2; exact absurd hq2.symm e
      · rw [clN_comm, ← hp2, ← hq2]; exact hp q p hq1 hp1 g
theorem refFamily_is (a0 a1 : Int) (l marks : List Int) : ∃ K, ∀ k, K ≤ k → peaveyref01_Family.f k a0 a1 l marks = mark_Family.f a0 a1 l marks := by
  refine ⟨2 ^ marks.length * (marks.length + 2) + 21, fun k hk => ?_⟩
  unfold peaveyref01_Family.f mark_Family.f
  rw [refAsked_is a0 a1 l marks (by omega), Option.bind_some]
  by_cases h0 : askedN a0 a1 l marks = 0
  · have hn := (asked_marks h0).2.1
    rw [if_pos h0, if_neg (fun h => h h0)]
    unfold peaveyref01_clashes.f
    rw [if_pos h0, Option.bind_some]
    obtain ⟨c, hc⟩ : ∃ c : Nat → Nat, c = fun i => bitsTo (clC l a1 marks i) marks.length := ⟨_, rfl⟩
    have hcl : ∀ i, i < marks.length → rd (clashL l a1 marks marks.length) (i : Int) = (c i : Int) ∧ c i < 4096 := by
      intro i hi
      rw [hc]
      exact ⟨clashL_get l a1 marks hi, set_lt hn (bitsTo_lt _ _)⟩
    obtain ⟨j, rfl⟩ : ∃ j, k = 2 ^ marks.length * (marks.length + 2) + (j + 21) := ⟨k - (2 ^ marks.length * (marks.length + 2) + 21), by omega⟩
    have hpos : 0 < 2 ^ marks.length := Nat.two_pow_pos _
    have hloop := fam_loop hn (clashL_length l a1 marks marks.length) hcl j (2 ^ marks.length) 0 0 (by omega) hpos
    refine hloop.trans ?_
    have hg0 : goodF c 0 marks.length 0 = true := goodF_iff.2 fun j _ _ h => by rw [Nat.zero_testBit] at h; cases h
    obtain ⟨f1, f2, _, f4⟩ := fin_best hn (2 ^ marks.length) 0 0 (by omega) hpos hg0
    obtain ⟨b, hb⟩ : ∃ b, b = fin marks.length c 0 0 (2 ^ marks.length) := ⟨_, rfl⟩
    rw [← hb] at f1 f2 f4 ⊢
    have hfirst : FirstG (joinsB a1 l marks) marks.length 0 [] (setFrom b marks.length 0) := by
      rw [hc] at f2
      refine ⟨setFrom_incr (by omega), (goodF_good h0 f1).1 f2, fun u hu hgu => ?_⟩
      obtain ⟨s, hs⟩ : ∃ s, s = bitsTo (fun j => decide (j ∈ u)) marks.length := ⟨_, rfl⟩
      have hs2 : s < 2 ^ marks.length := by rw [hs]; exact bitsTo_lt _ _
      have hsu : setFrom s marks.length 0 = u := setFrom_of (by omega) hu fun j _ hj => by rw [hs, bitsTo_bit]; simp [hj]
      have hgs : goodF c s marks.length 0 = true := by rw [hc]; exact (goodF_good h0 hs2).2 (by rw [hsu]; exact hgu)
      rcases f4 s (by omega) hs2 hgs with h | ⟨h1, h2⟩
      · rw [hsu] at h; exact .inl h
      · rw [hsu] at h1
        refine .inr ⟨h1, ?_⟩
        rcases h2 with h2 | h2
        · rw [← h2, hsu]; exact .inl rfl
        · rw [hsu] at h2; exact .inr h2
    obtain ⟨t, ht1, ht2⟩ := fam_first (joinsB a1 l marks) marks.length
    have : famV a1 l marks = ints t := ht1
    rw [this, first_only hfirst ht2]
  · rw [if_neg h0, if_pos h0]; rfl
end Go.Proofs.Ytbhcchhhpmlpmaa.Hand

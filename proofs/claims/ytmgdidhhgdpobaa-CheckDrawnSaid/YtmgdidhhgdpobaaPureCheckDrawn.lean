/- CheckDrawn: for all numbers of a boom, two numbers of samples and bits: the sample with a number has this number, a sample is that with its number, a greater number comes later, and the first log is in all samples that come before those without it. -/
import Derived.IntWalk
import Derived.Test.YtmgdidhhgdpobaaPdrawn2
import Derived.Test.YtmgdidhhgdpobaaHD
import Derived.Test.YtmgdidhhgdpobaaHDrawn
namespace Go.Proofs.Ytmgdidhhgdpobaa.Pure
set_option linter.unusedVariables false
set_option linter.unusedSimpArgs false
open Go.RowKit Go.Proofs.Ytmgdidhhgdpobaa.Pdrawn Go.Proofs.Ytmgdidhhgdpobaa.PrR Go.Proofs.Ytmgdidhhgdpobaa.PrU Go.Proofs.Ytmgdidhhgdpobaa.PrC Go.Proofs.Ytmgdidhhgdpobaa.PrD Go.Proofs.Ytmgdidhhgdpobaa.Hand Go.Proofs.YtmgdidhhgdpobaaW.PrintWords Go.Proofs.YtmgdidhhgdpobaaW.PrintLast

theorem ints_loop (l : List Int) (hl : l.length ≤ 1000) : ∀ (m i : Nat), i + m = l.length → ∀ k, m < k → peaveylaw10_Ints.l0 k l l i = some true
  | 0, i, h, k + 1, _ => by
    have hge : ¬ (i : Int) < (l.length : Int) := by omega
    rw [peaveylaw10_Ints.l0, if_neg hge]
  | m + 1, i, h, k + 1, hk => by
    have hlt : (i : Int) < (l.length : Int) := by omega
    have h0 : (0 : Int) ≤ (i : Int) := by omega
    rw [peaveylaw10_Ints.l0, if_pos hlt, if_pos h0, if_pos hlt, if_pos rfl, wsucc i (by omega)]
    exact ints_loop l hl m (i + 1) (by omega) k (by omega)
theorem ints_is (l : List Int) (hl : l.length ≤ 1000) (k : Nat) (hk : 1001 ≤ k) : peaveylaw10_Ints.f k l l = some true := by
  unfold peaveylaw10_Ints.f
  rw [if_pos rfl]
  exact ints_loop l hl l.length 0 (by omega) k (by omega)
theorem draw_ok (a s : Nat) (num : Int) (h1 : 1 ≤ a) (h2 : a ≤ 50) (h3 : s ≤ a) (h4 : 0 ≤ num) (h5 : num < (binom a s : Int)) : check_Draw.f a s num = some (drawFrom a ((0 : Nat) : Int) s num, 0) := by
  unfold check_Draw.f
  have e : (outB 1 50 (a : Int) || outB 0 (a : Int) (s : Int)) = false := by rw [out_of (by omega), out_of (by omega)]; rfl
  rw [e]
  simp only [Int.toNat_natCast, Bool.false_eq_true, if_false]
  rw [if_neg (by omega)]
  rfl
theorem number_ok (a : Nat) (l : List Int) (h1 : 1 ≤ a) (h2 : a ≤ 50) (h : okFrom a 0 l = true) : check_Number.f a l = some ((binom a l.length : Int) - 1 - afterN a l, 0) := by
  unfold check_Number.f
  rw [out_of (lo := 1) (hi := 50) (x := (a : Int)) (by omega), h]
  simp only [Int.toNat_natCast, Bool.false_eq_true, if_false, if_true]
theorem okFrom_wide : ∀ (l : List Int) {a b n : Int}, a ≤ b → okFrom a n l = true → okFrom b n l = true
  | [], _, _, _, _, _ => rfl
  | x :: l, a, b, n, hab, h => by
    simp only [okFrom, Bool.and_eq_true, Bool.not_eq_true'] at h ⊢
    have := out_in h.1
    exact ⟨out_of (by omega), okFrom_wide l hab h.2⟩
theorem okFrom_snoc : ∀ (l : List Int) {x n : Int}, n ≤ x → okFrom x n l = true → okFrom (x + 1) n (l ++ [x]) = true
  | [], x, n, hn, _ => by
    show okFrom (x + 1) n [x] = true
    simp only [okFrom, Bool.and_eq_true, Bool.not_eq_true', and_true]
    exact out_of (by omega)
  | y :: l, x, n, hn, h => by
    rw [List.cons_append]
    simp only [okFrom, Bool.and_eq_true, Bool.not_eq_true'] at h ⊢
    have := out_in h.1
    exact ⟨out_of (by omega), okFrom_snoc l (by omega) h.2⟩

theorem last_part (a s : Nat) (own : List Int) (h1 : 1 ≤ a) (h2 : a ≤ 50) (h3 : s ≤ a) (hl : own.length ≤ 1000) (k : Nat) (hk : 2000 ≤ k) : peaveylaw10_CheckDrawn.j6 k a s 0 0 own own ((s : Int) == 0) = some true := by
  obtain ⟨k, rfl⟩ : ∃ j, k = j + 1 := ⟨k - 1, by omega⟩
  rw [peaveylaw10_CheckDrawn.j6]
  rcases Nat.eq_zero_or_pos s with h0 | h0
  · subst h0
    rw [if_pos (by rfl), if_pos rfl, if_pos rfl, ints_is own hl k (by omega)]
    rfl
  · have hne : ¬ ((s : Int) == 0) = true := by
      rw [beq_iff_eq]; omega
    obtain ⟨t, rfl⟩ : ∃ t, s = t + 1 := ⟨s - 1, by omega⟩
    obtain ⟨b, rfl⟩ : ∃ b, a = b + 1 := ⟨a - 1, by omega⟩
    have e1 : wrap64 (((b + 1 : Nat) : Int) - 1) = (b : Int) := by rw [wrap64_in (by omega)]; omega
    have e2 : wrap64 (((t + 1 : Nat) : Int) - 1) = (t : Int) := by rw [wrap64_in (by omega)]; omega
    rw [if_neg hne, e1, e2, choose_ok (by omega) (by omega) (by omega) (by omega)]
    clear e1 e2
    simp only [Option.bind_some, Int.toNat_natCast, if_true]
    have hp := binom_pos b t (by omega)
    have hb := binom_le50 b t (by omega)
    have hlt : ((binom b t : Nat) : Int) - 1 < (binom (b + 1) (t + 1) : Int) := by rw [binom_succ]; omega
    have e3 : wrap64 (((binom b t : Nat) : Int) - 1) = ((binom b t : Nat) : Int) - 1 := wrap64_in (by omega)
    rw [e3]
    clear e3
    obtain ⟨d1, _, _⟩ := draw_num (b + 1) (b + 1) 0 (t + 1) ((binom b t : Int) - 1) (by omega) (by omega) (by omega) hlt
    rw [draw_ok (b + 1) (t + 1) _ (by omega) (by omega) (by omega) (by omega) hlt]
    rw [drawFrom_take (by omega) (by rw [Nat.add_sub_cancel]; omega)] at d1 ⊢
    simp only [Option.bind_some, if_true]
    rw [d1, if_pos rfl, if_pos (by omega)]
    rw [if_pos (by rfl)]
    rfl
theorem own_part (x4 : Int) (a s : Nat) (h1 : 1 ≤ a) (h2 : a ≤ 50) (h3 : s ≤ a) : ∀ (m x : Nat) (own : List Int), x + m = a → okFrom x 0 own = true → ∀ k, 2001 + m < k → peaveylaw10_CheckDrawn.l1 k x4 a s own x = some true := by
  intro m
  induction m with
  | zero =>
    intro x own hx hok k hk
    obtain ⟨k, rfl⟩ : ∃ j, k = j + 1 := ⟨k - 1, by omega⟩
    obtain rfl : x = a := by omega
    have hlen := okFrom_len own (x : Int) 0 (by omega) hok
    have ha := after_le (x : Int) own 0 (by omega) hok
    rw [show ((x : Int) - 0).toNat = x by omega] at ha
    have hback := draw_back x x 0 own (by omega) hok
    rw [peaveylaw10_CheckDrawn.l1, if_neg (by omega), number_ok x own h1 h2 hok, Option.bind_some]
    dsimp only
    rw [draw_ok x own.length _ h1 h2 (by omega) (by omega) (by omega), hback, Option.bind_some, if_pos rfl, if_pos rfl, ints_is own (by omega) k (by omega), Option.bind_some, if_pos rfl]
    exact last_part x s own h1 h2 h3 (by omega) k (by omega)
  | succ m ih =>
    intro x own hx hok k hk
    obtain ⟨k, rfl⟩ : ∃ j, k = j + 1 := ⟨k - 1, by omega⟩
    have hlen := okFrom_len own (x : Int) 0 (by omega) hok
    have hlt : (x : Int) < (a : Int) := by omega
    have h0 : (0 : Int) ≤ (x : Int) := by omega
    rw [peaveylaw10_CheckDrawn.l1, if_pos hlt, if_pos h0, wsucc x (by omega)]
    split
    · rw [if_pos (by omega)]
      exact ih (x + 1) _ (by omega) (okFrom_snoc own (by omega) hok) k (by omega)
    · exact ih (x + 1) _ (by omega) (okFrom_wide own (by omega) hok) k (by omega)
/-- the later one is that with the greater number -/
def Cmp (i j : Int) (l m : List Int) : Prop := (i < j ∧ befL l m) ∨ (j < i ∧ befL m l) ∨ l = m
theorem cmp_part (x4 i j : Int) (a s : Nat) (l m : List Int) (h2 : a ≤ 50) (h3 : s ≤ a) (hl : l.length = s) (hm : m.length = s) (hnext : ∀ k, 3000 ≤ k → peaveylaw10_CheckDrawn.j4 k x4 a s = some true) :
    ∀ (d x : Nat), x + d = s → Cmp i j (l.drop x) (m.drop x) → ∀ k, 3000 + d < k → peaveylaw10_CheckDrawn.l0 k x4 a s i j l m x = some true := by
  intro d
  induction d with
  | zero =>
    intro x hx hc k hk
    obtain ⟨k, rfl⟩ : ∃ j, k = j + 1 := ⟨k - 1, by omega⟩
    rw [peaveylaw10_CheckDrawn.l0, if_neg (by omega)]
    exact hnext k (by omega)
  | succ d ih =>
    intro x hx hc k hk
    obtain ⟨k, rfl⟩ : ∃ j, k = j + 1 := ⟨k - 1, by omega⟩
    rw [peaveylaw10_CheckDrawn.l0, if_pos (by omega), if_pos (by omega), if_pos (by omega), if_pos (by omega), wsucc x (by omega)]
    rw [drop_cons_rd l x (by omega), drop_cons_rd m x (by omega)] at hc
    generalize rd l (x : Int) = u at *
    generalize rd m (x : Int) = v at *
    by_cases e : u = v
    · rw [if_pos e]
      refine ih (x + 1) (by omega) ?_ k (by omega)
      rcases hc with ⟨h, hb⟩ | ⟨h, hb⟩ | hb
      · rcases hb with hb | ⟨_, hb⟩
        · omega
        · exact .inl ⟨h, hb⟩
      · rcases hb with hb | ⟨_, hb⟩
        · omega
        · exact .inr (.inl ⟨h, hb⟩)
      · exact .inr (.inr (List.cons.inj hb).2)
    · rw [if_neg e]
      have hcmp : decide (u < v) = decide (i < j) := by
        rcases hc with ⟨h, hb⟩ | ⟨h, hb⟩ | hb
        · rcases hb with hb | ⟨hb, _⟩
          · rw [decide_eq_true hb, decide_eq_true h]
          · exact absurd hb e
        · rcases hb with hb | ⟨hb, _⟩
          · rw [decide_eq_false (by omega), decide_eq_false (by omega)]
          · exact absurd hb.symm e
        · exact absurd (List.cons.inj hb).1 e
      rw [hcmp, if_neg (by simp)]
      exact hnext k (by omega)
theorem u64_mod (x : Int) (n : Nat) (hx : (Lit.int .u64 x).wf = true) (hn : 0 < n) (hb : (n : Int) ≤ 1125899906842624) : ∃ i : Int, wrap64 (Int.tmod x (IntKind.u64.wrap (n : Int))) = i ∧ 0 ≤ i ∧ i < n := by
  have e : IntKind.u64.wrap (n : Int) = (n : Int) := IntWalk.u64_in _ (by omega)
  have hx0 : 0 ≤ x := ((Lit.wf_int_iff .u64 x).1 hx).1
  have t := tmod_in (x := x) (y := (n : Int)) hx0 (by omega)
  rw [e, wrap64_in (by omega)]
  exact ⟨_, rfl, t⟩
theorem draw_cmp (a s : Nat) (i j : Int) (h : s ≤ a) (hi : 0 ≤ i ∧ i < (binom a s : Int)) (hj : 0 ≤ j ∧ j < (binom a s : Int)) : Cmp i j (drawFrom a ((0 : Nat) : Int) s i) (drawFrom a ((0 : Nat) : Int) s j) := by
  rcases Int.lt_trichotomy i j with h1 | h1 | h1
  · exact .inl ⟨h1, draw_bef a a 0 s i j (by omega) h hi.1 h1 hj.2⟩
  · subst h1; exact .inr (.inr rfl)
  · exact .inr (.inl ⟨h1, draw_bef a a 0 s j i (by omega) h hj.1 h1 hi.2⟩)
theorem CheckDrawn : peaveylaw10_CheckDrawn.Pure := by
  intro a0 a1 x2 x3 x4 w0 w1 w2 w3 w4
  obtain ⟨a, z, s, g, hb, p1, p2, _, _, p5, p6, _, _⟩ := boom_in a0 0 a1 0 (u8_in w0) (by omega) (u8_in w1) (by omega)
  refine ⟨10000, ?_⟩
  unfold peaveylaw10_CheckDrawn.f
  rw [hb, Option.bind_some]
  dsimp only
  clear hb
  obtain ⟨a, rfl⟩ := Int.eq_ofNat_of_zero_le (show 0 ≤ a by omega)
  obtain ⟨s, rfl⟩ := Int.eq_ofNat_of_zero_le p5
  have hp := binom_pos a s (by omega)
  have hbd := binom_le50 a s (by omega)
  rw [choose_ok (by omega) (by omega) (by omega) (by omega), Option.bind_some, choices_is (a : Int) (s : Int) (by omega) 10000 (by omega), choN_nat]
  simp only [Int.toNat_natCast, Option.bind_some, if_true, bne_self_eq_false]
  rw [peaveylaw10_CheckDrawn.j0]
  obtain ⟨i, hi, hi0⟩ := u64_mod x2 (binom a s) w2 hp (by omega)
  obtain ⟨j, hj, hj0⟩ := u64_mod x3 (binom a s) w3 hp (by omega)
  have e : IntKind.u64.wrap ((binom a s : Nat) : Int) = ((binom a s : Nat) : Int) := IntWalk.u64_in _ (by omega)
  rw [hi, hj, e, if_neg (by decide), if_neg (by omega)]
  clear e hi hj
  obtain ⟨l1, l2, l3⟩ := draw_num a a 0 s i (by omega) (by omega) hi0.1 hi0.2
  obtain ⟨m1, m2, m3⟩ := draw_num a a 0 s j (by omega) (by omega) hj0.1 hj0.2
  rw [draw_ok a s i (by omega) (by omega) (by omega) hi0.1 hi0.2, draw_ok a s j (by omega) (by omega) (by omega) hj0.1 hj0.2]
  have hcmp := draw_cmp a s i j (by omega) hi0 hj0
  generalize drawFrom a ((0 : Nat) : Int) s i = l at *
  generalize drawFrom a ((0 : Nat) : Int) s j = m at *
  simp only [Option.bind_some, if_true]
  rw [if_pos (by rw [l1]), if_pos (by rw [m1]), isSample_is (a : Int) l (by omega) _ (by omega), isSample_is (a : Int) m (by omega) _ (by omega)]
  have l2' : okFrom (a : Int) 0 l = true := l2
  have m2' : okFrom (a : Int) 0 m = true := m2
  rw [l2', m2']
  simp only [Option.bind_some, if_true, Bool.not_true]
  rw [peaveylaw10_CheckDrawn.j1, if_neg (by decide), number_ok a l (by omega) (by omega) l2', l1, l3]
  simp only [Option.bind_some, if_true, bne_self_eq_false]
  rw [peaveylaw10_CheckDrawn.j2, if_neg (by decide)]
  refine cmp_part x4 i j a s l m (by omega) (by omega) l1 m1 ?_ s 0 (by omega) (by simpa using hcmp) _ (by omega)
  intro k hk
  obtain ⟨k, rfl⟩ : ∃ j, k = j + 1 := ⟨k - 1, by omega⟩
  rw [peaveylaw10_CheckDrawn.j4]
  exact own_part x4 a s (by omega) (by omega) (by omega) a 0 [] (by omega) rfl k (by omega)
end Go.Proofs.Ytmgdidhhgdpobaa.Pure

/- Texts of the claim, joined: HBits, HRefO. -/
import Derived.Test.YtbhcchhhpmlpmaaMB
import Derived.Test.YtbhcchhhpmlpmaaPrR2
import Derived.Test.YtbhcchhhpmlpmaaPrC1
/- Plain facts about sets of strokes. -/
namespace Go.Proofs.Ytbhcchhhpmlpmaa.Hand
set_option linter.unusedVariables false
set_option linter.unusedSimpArgs false
open Go.RowKit Go.Proofs.YtbhcchhhpmlpmaaW.PrintWords

theorem countP_split {α : Type} (p q : α → Bool) : ∀ l : List α, l.countP p = l.countP (fun x => p x && q x) + l.countP (fun x => p x && !q x)
  | [] => rfl
  | x :: l => by
    rw [List.countP_cons, List.countP_cons, List.countP_cons, countP_split p q l]
    cases p x <;> cases q x <;> simp <;> omega
theorem pc_count (n : Nat) : pc n = (List.range 10).countP fun i => n.testBit i := by rw [pc, List.countP_eq_length_filter]
theorem pc_mono {a b : Nat} (h : ∀ i, i < 10 → a.testBit i = true → b.testBit i = true) : pc a ≤ pc b := by
  rw [pc_count, pc_count]
  exact List.countP_mono_left fun i hi => h i (List.mem_range.1 hi)
theorem pc_split (a b : Nat) (hb : b < 1024) : pc a = pc (a &&& b) + pc (dif a b) := by
  rw [pc_count, pc_count, pc_count, countP_split (fun i => a.testBit i) (fun i => b.testBit i)]
  congr 1
  · exact List.countP_congr fun i _ => by rw [Nat.testBit_and]
  · refine List.countP_congr fun i hi => ?_
    have : i < 10 := List.mem_range.1 hi
    rw [dif_bit a b i hb]; simp [this]
theorem pc_zero {a : Nat} (ha : a < 1024) (h : pc a = 0) : a = 0 := by
  apply Nat.eq_of_testBit_eq
  intro i
  rw [Nat.zero_testBit]
  by_cases hi : i < 10
  · rw [pc_count, List.countP_eq_zero] at h
    simpa using h i (List.mem_range.2 hi)
  · exact big_bit a i ha (by omega)
theorem and_lt {a b : Nat} (ha : a < 1024) : a &&& b < 1024 := Nat.lt_of_le_of_lt Nat.and_le_left ha
theorem dif_zero {a b : Nat} (hb : b < 1024) (ha : a < 1024) (h : dif a b = 0) : a &&& b = a := by
  apply Nat.eq_of_testBit_eq
  intro i
  have h1 : (dif a b).testBit i = false := by rw [h, Nat.zero_testBit]
  rw [dif_bit a b i hb] at h1
  rw [Nat.testBit_and]
  by_cases hi : i < 10
  · simp [hi] at h1
    cases h2 : a.testBit i
    · rfl
    · rw [h1 h2]; rfl
  · rw [big_bit a i ha (by omega)]; rfl
theorem dif_of_sub {a b : Nat} (hb : b < 1024) (h : a &&& b = a) : dif a b = 0 := by
  apply Nat.eq_of_testBit_eq
  intro i
  rw [dif_bit a b i hb, Nat.zero_testBit]
  have : a.testBit i = (a.testBit i && b.testBit i) := by rw [← Nat.testBit_and, h]
  cases h1 : a.testBit i
  · rfl
  · rw [h1] at this
    simp at this
    simp [this]
theorem sub_bit {a b i : Nat} (h : a &&& b = a) (hi : a.testBit i = true) : b.testBit i = true := by
  rw [← h, Nat.testBit_and] at hi
  simp at hi
  exact hi.2
theorem sub_of_bits {a b : Nat} (h : ∀ i, a.testBit i = true → b.testBit i = true) : a &&& b = a := by
  apply Nat.eq_of_testBit_eq
  intro i
  rw [Nat.testBit_and]
  cases h1 : a.testBit i
  · rfl
  · rw [h i h1]; rfl
/-- a set with as many strokes that contains another one is the same -/
theorem sub_eq {a b : Nat} (ha : a < 1024) (hb : b < 1024) (h : a &&& b = a) (hp : pc b ≤ pc a) : a = b := by
  have h1 := pc_split b a ha
  have h2 : b &&& a = a := by rw [Nat.and_comm]; exact h
  rw [h2] at h1
  have h3 : dif b a = 0 := pc_zero (dif_lt _ _) (by omega)
  have h4 := dif_zero ha hb h3
  rw [h2] at h4
  exact h4
theorem dif_and (a b : Nat) (ha : a < 1024) (hb : b < 1024) : dif a (a &&& b) = dif a b := by
  apply Nat.eq_of_testBit_eq
  intro i
  rw [dif_bit a _ i (and_lt ha), dif_bit a b i hb, Nat.testBit_and]
  cases a.testBit i <;> simp
theorem dif_and' (a b : Nat) (ha : a < 1024) (hb : b < 1024) : dif b (a &&& b) = dif b a := by
  rw [Nat.and_comm]; exact dif_and b a hb ha
theorem and_sub_left (a b : Nat) : (a &&& b) &&& a = a &&& b := sub_of_bits fun i hi => by rw [Nat.testBit_and] at hi; simp at hi; exact hi.1
theorem and_sub_right (a b : Nat) : (a &&& b) &&& b = a &&& b := sub_of_bits fun i hi => by rw [Nat.testBit_and] at hi; simp at hi; exact hi.2

/-- can a worn mark be a mark, of which at most so many strokes can be lost? -/
def canBe (w m : Nat) (loss : Int) : Bool := decide (w &&& m = w) && decide ((pc (dif m w) : Int) ≤ loss)
theorem canBe_iff {w m : Nat} {loss : Int} : canBe w m loss = true ↔ w &&& m = w ∧ (pc (dif m w) : Int) ≤ loss := by simp [canBe]
theorem canBe_both {a b w : Nat} {la lb : Int} (ha : a < 1024) (hb : b < 1024) (h1 : canBe w a la = true) (h2 : canBe w b lb = true) : w &&& (a &&& b) = w ∧ (pc (dif a b) : Int) ≤ la ∧ (pc (dif b a) : Int) ≤ lb := by
  obtain ⟨s1, p1⟩ := canBe_iff.1 h1
  obtain ⟨s2, p2⟩ := canBe_iff.1 h2
  have hw : w < 1024 := by rw [← s1, Nat.and_comm]; exact and_lt ha
  refine ⟨by rw [← Nat.and_assoc, s1, s2], ?_, ?_⟩
  · have : pc (dif a b) ≤ pc (dif a w) := pc_mono fun i hi h => by
      rw [dif_bit a b i hb] at h
      rw [dif_bit a w i hw]
      simp [hi] at h ⊢
      refine ⟨h.1, ?_⟩
      cases hwi : w.testBit i
      · rfl
      · rw [sub_bit s2 hwi] at h; simp at h
    omega
  · have : pc (dif b a) ≤ pc (dif b w) := pc_mono fun i hi h => by
      rw [dif_bit b a i ha] at h
      rw [dif_bit b w i hw]
      simp [hi] at h ⊢
      refine ⟨h.1, ?_⟩
      cases hwi : w.testBit i
      · rfl
      · rw [sub_bit s1 hwi] at h; simp at h
    omega
theorem canBe_and {a b : Nat} {la lb : Int} (ha : a < 1024) (hb : b < 1024) (h1 : (pc (dif a b) : Int) ≤ la) (h2 : (pc (dif b a) : Int) ≤ lb) : canBe (a &&& b) a la = true ∧ canBe (a &&& b) b lb = true :=
  ⟨canBe_iff.2 ⟨and_sub_left a b, by rw [dif_and a b ha hb]; exact h1⟩, canBe_iff.2 ⟨and_sub_right a b, by rw [dif_and' a b ha hb]; exact h2⟩⟩

/-- an owner's mark -/
def mk (l : List Int) (i : Nat) : Nat := (rd l (i : Int)).toNat
theorem mk_rd {a0 a1 : Int} {l : List Int} (ho : officeN a0 a1 l = 0) {i : Nat} (h : i < l.length) : rd l (i : Int) = (mk l i : Int) := by
  have := mark_bound ho i h
  unfold mk; omega
theorem mk_lt {a0 a1 : Int} {l : List Int} (ho : officeN a0 a1 l = 0) {i : Nat} (h : i < l.length) : mk l i < 1024 := by
  have := mark_bound ho i h
  unfold mk; omega
theorem mk_pos {a0 a1 : Int} {l : List Int} (ho : officeN a0 a1 l = 0) {i : Nat} (h : i < l.length) : 1 ≤ mk l i := by
  have := mark_bound ho i h
  unfold mk; omega
theorem mk_all {a0 a1 : Int} {l : List Int} (ho : officeN a0 a1 l = 0) {i : Nat} (h : i < l.length) : (mk l i : Int) ≤ allN a0 := by
  rw [← mk_rd ho h]
  have e : rd l (i : Int) = l[i] := by simp [rd, h]
  rw [e]
  exact ((office_zero ho).2.2.2.2.2 l[i] (List.getElem_mem h)).2

/-- a worn mark can be an owner's: what the program looks at says so -/
theorem canB_is {a0 a1 : Int} {l : List Int} (ho : officeN a0 a1 l = 0) {i w : Nat} (hi : i < l.length) (hw : w < 1024) : canB a1 l (i : Int) (w : Int) = canBe w (mk l i) a1 := by
  have hz := office_zero ho
  have hm := mk_lt ho hi
  have hloss : lossI (rd l (i : Int)) (w : Int) = if w &&& mk l i = w then (pc (dif (mk l i) w) : Int) else 11 := by
    rw [lossI, mk_rd ho hi, i64_andNot_nat w _ hw hm, i64_andNot_nat _ w hm hw, szI_table _ (dif_lt _ _)]
    by_cases h : w &&& mk l i = w
    · rw [if_pos h, dif_of_sub hm h]; rfl
    · rw [if_neg h, if_neg]
      intro h0
      exact h (dif_zero hm hw (by omega))
  have hl : lossF l (w : Int) l.length i = lossI (rd l (i : Int)) (w : Int) := by simp [lossF, hi]
  have hc : canBe w (mk l i) a1 = decide (lossI (rd l (i : Int)) (w : Int) ≤ a1) := by
    rw [hloss, canBe]
    by_cases h : w &&& mk l i = w
    · simp [h]
    · simp [h]; omega
  rw [canB, Int.toNat_natCast, hl, hc]
  cases hall : (List.range 12).all fun j => lossF l (w : Int) l.length j == 0
  · rfl
  · have := List.all_eq_true.1 hall i (List.mem_range.2 (by have := hz.2.2.2.2.1; omega))
    rw [hl] at this
    have h0 : lossI (rd l (i : Int)) (w : Int) = 0 := by simpa using this
    rw [h0]
    simp
    exact hz.2.2.1
/-- how far marks are -/
theorem far_is {a0 a1 : Int} {l : List Int} (ho : officeN a0 a1 l = 0) {i j : Nat} (hi : i < l.length) (hj : j < l.length) : farI (rd l (i : Int)) (rd l (j : Int)) = ((max (pc (dif (mk l i) (mk l j))) (pc (dif (mk l j) (mk l i))) : Nat) : Int) := by
  rw [mk_rd ho hi, mk_rd ho hj, farI_nat _ _ (mk_lt ho hi) (mk_lt ho hj)]
end Go.Proofs.Ytbhcchhhpmlpmaa.Hand

/- The reference's offices and owners, in plain numbers. -/
namespace Go.Proofs.Ytbhcchhhpmlpmaa.Hand
set_option linter.unusedVariables false
set_option linter.unusedSimpArgs false
open Go.RowKit Go.Proofs.YtbhcchhhpmlpmaaW.PrintWords Go.Proofs.YtbhcchhhpmlpmaaW.PrintLast Go.Proofs.YtbhcchhhpmlpmaaW.PrintMore Go.Proofs.Ytbhcchhhpmlpmaa.PrA Go.Proofs.Ytbhcchhhpmlpmaa.PrR Go.Proofs.Ytbhcchhhpmlpmaa.PrC

theorem w64 {n : Int} (h : -9223372036854775808 ≤ n ∧ n ≤ 9223372036854775807) : wrap64 n = n := IntWalk.wrap64_in n h
theorem add_or {x y : Nat} (hx : x < 1024) (hy : y < 1024) (h : x &&& y = 0) : x + y = x ||| y := by
  have h1 : BitVec.ofNat 64 x &&& BitVec.ofNat 64 y = 0#64 := by
    apply BitVec.eq_of_toNat_eq
    rw [BitVec.toNat_and, BitVec.toNat_ofNat, BitVec.toNat_ofNat, Nat.mod_eq_of_lt (by omega), Nat.mod_eq_of_lt (by omega), h]; rfl
  have h2 := congrArg BitVec.toNat (BitVec.add_eq_or_of_and_eq_zero _ _ h1)
  rw [BitVec.toNat_add, BitVec.toNat_or, BitVec.toNat_ofNat, BitVec.toNat_ofNat, Nat.mod_eq_of_lt (show x < 2 ^ 64 by omega), Nat.mod_eq_of_lt (show y < 2 ^ 64 by omega), Nat.mod_eq_of_lt (by omega)] at h2
  exact h2
theorem wsucc (i : Nat) (hn : i ≤ 100000) : wrap64 ((i : Int) + 1) = ((i + 1 : Nat) : Int) := by rw [w64 (by omega)]; omega
theorem refAll_is {a0 : Int} (a1 : Int) (l : List Int) (h1 : 1 ≤ a0) (h2 : a0 ≤ 10) : peaveyref01_All.f a0 a1 l = some (allN a0) := by
  have : a0 = 1 ∨ a0 = 2 ∨ a0 = 3 ∨ a0 = 4 ∨ a0 = 5 ∨ a0 = 6 ∨ a0 = 7 ∨ a0 = 8 ∨ a0 = 9 ∨ a0 = 10 := by omega
  rcases this with rfl | rfl | rfl | rfl | rfl | rfl | rfl | rfl | rfl | rfl <;> (simp only [peaveyref01_All.f, allN]; decide +kernel)
theorem refOffice_loop (a0 a1 : Int) (l : List Int) (h1 : 1 ≤ a0) (h2 : a0 ≤ 10) (hl : l.length ≤ 12) : ∀ (m i : Nat), i + m = l.length → ∀ k, m < k → peaveyref01_CheckOffice.l0 k (i : Int) a0 a1 l = some (if (l.drop i).any (outB 1 (allN a0)) then 2 else 0)
  | 0, i, hi, k + 1, _ => by
    rw [peaveyref01_CheckOffice.l0, if_neg (by omega), show l.drop i = [] by rw [List.drop_eq_nil_iff]; omega]; rfl
  | m + 1, i, hi, k + 1, hk => by
    have hlt : i < l.length := by omega
    have hd : l.drop i = rd l (i : Int) :: l.drop (i + 1) := by rw [List.drop_eq_getElem_cons hlt]; simp [rd, hlt]
    rw [peaveyref01_CheckOffice.l0, if_pos (by omega), if_pos (by omega), refAll_is a1 l h1 h2, hd, List.any_cons, wsucc i (by omega), refOffice_loop a0 a1 l h1 h2 hl m (i + 1) (by omega) k (by omega), Option.bind_some]
    by_cases c1 : rd l (i : Int) < 1
    · rw [if_pos c1]
      have : outB 1 (allN a0) (rd l (i : Int)) = true := by simp [outB, c1]
      rw [this]; rfl
    · rw [if_neg c1]
      by_cases c2 : rd l (i : Int) > allN a0
      · rw [if_pos c2]
        have : outB 1 (allN a0) (rd l (i : Int)) = true := by simp [outB]; omega
        rw [this]; rfl
      · rw [if_neg c2]
        have : outB 1 (allN a0) (rd l (i : Int)) = false := by simp [outB]; omega
        rw [this, Bool.false_or]
theorem refOffice_is (a0 a1 : Int) (l : List Int) {k : Nat} (hk : 20 ≤ k) : peaveyref01_CheckOffice.f k a0 a1 l = some (officeN a0 a1 l) := by
  obtain ⟨k, rfl⟩ : ∃ j, k = j + 1 := ⟨k - 1, by omega⟩
  unfold peaveyref01_CheckOffice.f officeN
  by_cases c1 : a0 < 1
  · rw [if_pos c1, peaveyref01_CheckOffice.j0, if_pos rfl]
    have : outB 1 10 a0 = true := by simp [outB, c1]
    rw [this]; rfl
  · rw [if_neg c1]
    by_cases c2 : a0 > 10
    · rw [if_pos c2, peaveyref01_CheckOffice.j0, if_pos rfl]
      have : outB 1 10 a0 = true := by simp [outB]; omega
      rw [this]; rfl
    · have hout : outB 1 10 a0 = false := by simp [outB]; omega
      rw [if_neg c2, hout, Bool.false_or]
      by_cases c3 : a1 < 0
      · rw [if_pos c3, peaveyref01_CheckOffice.j0, if_pos rfl]
        have : outB 0 a0 a1 = true := by simp [outB, c3]
        rw [this]; rfl
      · rw [if_neg c3, peaveyref01_CheckOffice.j0]
        by_cases c4 : a1 > a0
        · rw [if_pos (by simpa using c4)]
          have : outB 0 a0 a1 = true := by simp [outB]; omega
          rw [this]; rfl
        · rw [if_neg (by simpa using c4)]
          have : outB 0 a0 a1 = false := by simp [outB]; omega
          rw [this]
          by_cases c5 : 12 < l.length
          · rw [if_pos (by omega), if_neg (by simp), if_pos c5]
          · rw [if_neg (by omega), if_neg (by simp), if_neg c5]
            have := refOffice_loop a0 a1 l (by omega) (by omega) (by omega) l.length 0 (by omega) k (by omega)
            rw [List.drop_zero] at this
            exact this
theorem office_is (a0 a1 : Int) (l : List Int) {k : Nat} (hk : 1 ≤ k) : mark_CheckOffice.f k a0 a1 l = some (officeN a0 a1 l) := by
  obtain ⟨k, rfl⟩ : ∃ j, k = j + 1 := ⟨k - 1, by omega⟩
  exact office_eq k a0 a1 l
theorem refSize_is (n : Nat) (h : n < 1024) {k : Nat} (hk : 12 ≤ k) : peaveyref01_Size.f k (n : Int) = some (pc n : Int) := by
  have key : ∀ d, peaveyref01_Size.f (12 + d) (n : Int) = some (pc n : Int) := by
    intro d
    induction d with
    | zero => exact refSize_table n h
    | succ d ih => exact peaveyref01_Size.mono (n : Int) (12 + d) _ ih
  have := key (k - 12)
  rwa [show 12 + (k - 12) = k by omega] at this
theorem sub_dif {w m : Nat} (hw : w < 1024) (hm : m < 1024) (h : w &&& m = w) : m - w = dif m w := by
  have h1 : m = dif m w + w := by
    apply Nat.eq_of_testBit_eq
    intro i
    have h0 : dif m w &&& w = 0 := by
      apply Nat.eq_of_testBit_eq
      intro j
      rw [Nat.testBit_and, dif_bit m w j hw, Nat.zero_testBit]
      cases w.testBit j <;> simp
    rw [add_or (dif_lt _ _) hw h0, Nat.testBit_or, dif_bit m w i hw]
    cases hmi : m.testBit i
    · cases hwi : w.testBit i
      · simp
      · have := sub_bit h hwi
        rw [hmi] at this; cases this
    · have hi : i < 10 := by
        rcases Nat.lt_or_ge i 10 with g | g
        · exact g
        · rw [big_bit m i hm g] at hmi; cases hmi
      cases hwi : w.testBit i <;> simp [hi]
  omega
theorem refCanBe_is (w m : Nat) (loss : Int) (hw : w < 1024) (hm : m < 1024) {k : Nat} (hk : 12 ≤ k) : peaveyref01_CanBe.f k (w : Int) (m : Int) loss = some (canBe w m loss) := by
  unfold peaveyref01_CanBe.f peaveyref01_Within.f canBe
  rw [show Go.bits .and .i64 (w : Int) (m : Int) = ((w &&& m : Nat) : Int) from i64_and_nat w m hw hm, Option.bind_some]
  by_cases h : w &&& m = w
  · have hle : w ≤ m := by rw [← h]; exact Nat.and_le_right
    have h1 : wrap64 ((m : Int) - (w : Int)) = ((dif m w : Nat) : Int) := by rw [w64 (by omega), ← sub_dif hw hm h]; omega
    rw [h, h1, refSize_is _ (dif_lt _ _) hk]
    simp
  · have : (((w &&& m : Nat) : Int) == (w : Int)) = false := by simp; omega
    rw [this]
    simp [h]

/-- the first so many owners whose a worn mark can be -/
def ownN (a1 : Int) (l : List Int) (w : Nat) : Nat → List Int
  | 0 => []
  | k + 1 => ownN a1 l w k ++ (if canBe w (mk l k) a1 then [(k : Int)] else [])
theorem ownN_length (a1 : Int) (l : List Int) (w : Nat) : ∀ k, (ownN a1 l w k).length ≤ k
  | 0 => Nat.le_refl _
  | k + 1 => by
    have := ownN_length a1 l w k
    rw [ownN, List.length_append]
    split <;> simp <;> omega
theorem ownTo_is {a0 a1 : Int} {l : List Int} (ho : officeN a0 a1 l = 0) (w : Nat) (hw : w < 1024) : ∀ k, k ≤ l.length → ownTo a1 l (w : Int) k = ownN a1 l w k
  | 0, _ => rfl
  | k + 1, h => by rw [ownTo, ownN, ownTo_is ho w hw k (by omega), canB_is ho (by omega) hw]
theorem ints_loop (x y : List Int) (hl : x.length = y.length) (hb : x.length ≤ 10000) : ∀ (m i : Nat), i + m = x.length → ∀ k, m < k → peaveylaw01_Ints.l0 k x y (i : Int) = some (decide (x.drop i = y.drop i))
  | 0, i, hi, k + 1, _ => by
    rw [peaveylaw01_Ints.l0, if_neg (by omega), show x.drop i = [] by rw [List.drop_eq_nil_iff]; omega, show y.drop i = [] by rw [List.drop_eq_nil_iff]; omega]
    simp
  | m + 1, i, hi, k + 1, hk => by
    have h1 : i < x.length := by omega
    have h2 : i < y.length := by omega
    have e1 : x.drop i = rd x (i : Int) :: x.drop (i + 1) := by rw [List.drop_eq_getElem_cons h1]; simp [rd, h1]
    have e2 : y.drop i = rd y (i : Int) :: y.drop (i + 1) := by rw [List.drop_eq_getElem_cons h2]; simp [rd, h2]
    rw [peaveylaw01_Ints.l0, if_pos (by omega), if_pos (by omega), if_pos (by omega), e1, e2, wsucc i (by omega), ints_loop x y hl hb m (i + 1) (by omega) k (by omega)]
    by_cases h : rd x (i : Int) = rd y (i : Int)
    · rw [if_pos h]; simp [h]
    · rw [if_neg h]; simp [h]
theorem ints_is (x y : List Int) (hb : x.length ≤ 10000) {k : Nat} (hk : x.length < k) : peaveylaw01_Ints.f k x y = some (decide (x = y)) := by
  unfold peaveylaw01_Ints.f
  by_cases h : x.length = y.length
  · rw [if_pos (by omega)]
    have := ints_loop x y h hb x.length 0 (by omega) k hk
    rw [List.drop_zero, List.drop_zero] at this
    exact this
  · rw [if_neg (by omega)]
    have : ¬ x = y := fun e => h (by rw [e])
    simp [this]
theorem great_is (a0 a1 : Int) (l : List Int) : peaveylaw01_great.f a0 a1 l = some (decide (20 < l.length)) := by
  unfold peaveylaw01_great.f
  congr 1
  rw [Bool.eq_iff_iff]
  simp
  omega
theorem owners_some (a0 a1 : Int) (l : List Int) (worn : Int) : ∃ r e, mark_Owners.f a0 a1 l worn = some (r, e) ∧ r.length ≤ l.length := by
  unfold mark_Owners.f
  split
  · exact ⟨_, _, rfl, by simp⟩
  · split
    · exact ⟨_, _, rfl, by simp⟩
    · exact ⟨_, _, rfl, ownTo_length _ _ _ _⟩
end Go.Proofs.Ytbhcchhhpmlpmaa.Hand

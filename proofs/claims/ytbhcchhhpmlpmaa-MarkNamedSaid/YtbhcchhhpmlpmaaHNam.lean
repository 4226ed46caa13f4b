/- MarkNamed, the plain part: strokes are named otherwise (a permutation and its inverse): the size, the meet and the difference of sets are kept, so are owners, margin, losses, how many are free, how many tell. -/
import Derived.Test.YtbhcchhhpmlpmaaHLaw0
import Derived.Test.YtbhcchhhpmlpmaaHFreeA
import Derived.Test.YtbhcchhhpmlpmaaHLaws
import Derived.Test.YtbhcchhhpmlpmaaHRefT
import Derived.Test.YtbhcchhhpmlpmaaHRefK
namespace Go.Proofs.Ytbhcchhhpmlpmaa.Hand
set_option linter.unusedVariables false
set_option linter.unusedSimpArgs false
open Go.RowKit Go.Proofs.YtbhcchhhpmlpmaaW.PrintWords
theorem bef_pc {a b : Nat} (h : Bef a b) : pc a ≤ pc b := by
  rcases h with h | h
  · exact Nat.le_of_lt h
  · exact Nat.le_of_eq h.1
/-- strokes are named otherwise, and back -/
structure Ren (s : Nat) (f g : Nat → Nat) : Prop where
  s10 : s ≤ 10
  fl : ∀ i, i < s → f i < s
  gl : ∀ i, i < s → g i < s
  fg : ∀ i, i < s → f (g i) = i
  gf : ∀ i, i < s → g (f i) = i
theorem Ren.symm {s : Nat} {f g : Nat → Nat} (h : Ren s f g) : Ren s g f := ⟨h.s10, h.gl, h.fl, h.gf, h.fg⟩
theorem Ren.inj {s : Nat} {f g : Nat → Nat} (h : Ren s f g) {i j : Nat} (hi : i < s) (hj : j < s) (e : f i = f j) : i = j := by
  rw [← h.gf i hi, ← h.gf j hj, e]
theorem Ren.congr {s : Nat} {f f' g : Nat → Nat} (h : Ren s f g) (e : ∀ i, i < s → f' i = f i) : Ren s f' g :=
  ⟨h.s10, fun i hi => by rw [e i hi]; exact h.fl i hi, h.gl, fun i hi => by rw [e _ (h.gl i hi)]; exact h.fg i hi, fun i hi => by rw [e i hi]; exact h.gf i hi⟩
def tau (a b i : Nat) : Nat := if i = a then b else if i = b then a else i
theorem tau_tau (a b i : Nat) : tau a b (tau a b i) = i := by
  unfold tau
  by_cases h1 : i = a
  · subst h1; by_cases h2 : b = i <;> simp [h2]
  · by_cases h2 : i = b
    · subst h2; simp [h1]
    · simp [h1, h2]
theorem tau_lt {s a b i : Nat} (ha : a < s) (hb : b < s) (hi : i < s) : tau a b i < s := by
  unfold tau; split
  · exact hb
  · split
    · exact ha
    · exact hi
theorem Ren.tau {s : Nat} {f g : Nat → Nat} (h : Ren s f g) {a b : Nat} (ha : a < s) (hb : b < s) : Ren s (fun i => f (Hand.tau a b i)) (fun i => Hand.tau a b (g i)) :=
  ⟨h.s10, fun i hi => h.fl _ (tau_lt ha hb hi), fun i hi => tau_lt ha hb (h.gl i hi), fun i hi => by show f (Hand.tau a b (Hand.tau a b (g i))) = i; rw [tau_tau]; exact h.fg i hi,
    fun i hi => by show Hand.tau a b (g (f (Hand.tau a b i))) = i; rw [h.gf _ (tau_lt ha hb hi), tau_tau]⟩
theorem Ren.id {s : Nat} (h : s ≤ 10) : Ren s (fun i => i) (fun i => i) := ⟨h, fun _ h => h, fun _ h => h, fun _ _ => rfl, fun _ _ => rfl⟩

/-- a set with other names -/
def namTo (f : Nat → Nat) (m : Nat) : Nat → Nat
  | 0 => 0
  | k + 1 => if m.testBit k then namTo f m k + 2 ^ f k else namTo f m k
theorem add_table : ∀ x : Nat, x < 1024 → ∀ j : Nat, j < 10 → x.testBit j = false → x + 2 ^ j = x ||| 2 ^ j ∧ x + 2 ^ j < 1024 := by decide +kernel
theorem namTo_congr {f f' : Nat → Nat} (m : Nat) : ∀ k, (∀ i, i < k → f i = f' i) → namTo f m k = namTo f' m k
  | 0, _ => rfl
  | k + 1, h => by rw [namTo, namTo, namTo_congr m k (fun i hi => h i (by omega)), h k (by omega)]
theorem namTo_bits {s : Nat} {f g : Nat → Nat} (h : Ren s f g) (m : Nat) : ∀ k, k ≤ s → namTo f m k < 1024 ∧ (∀ i, i < s → (namTo f m k).testBit (f i) = (decide (i < k) && m.testBit i)) ∧ ∀ j, s ≤ j → (namTo f m k).testBit j = false
  | 0, _ => ⟨by simp [namTo], fun i _ => by simp [namTo], fun j _ => by simp [namTo]⟩
  | k + 1, hk => by
    obtain ⟨h1, h2, h3⟩ := namTo_bits h m k (by omega)
    have hf := h.fl k (by omega)
    have h10 := h.s10
    by_cases hb : m.testBit k = true
    · obtain ⟨e, hl⟩ := add_table _ h1 (f k) (by omega) (by rw [h2 k (by omega)]; simp)
      rw [namTo, if_pos hb]
      refine ⟨hl, fun i hi => ?_, fun j hj => ?_⟩
      · rw [e, Nat.testBit_or, h2 i hi, Nat.testBit_two_pow]
        by_cases hik : i = k
        · subst hik; simp [hb]
        · have : f k ≠ f i := fun e => hik (h.inj hi (by omega) e.symm)
          by_cases hlt : i < k
          · simp [this, hlt, show i < k + 1 by omega]
          · simp [this, hlt, show ¬ i < k + 1 by omega]
      · rw [e, Nat.testBit_or, h3 j hj, Nat.testBit_two_pow]
        simp; omega
    · rw [namTo, if_neg hb]
      refine ⟨h1, fun i hi => ?_, h3⟩
      rw [h2 i hi]
      by_cases hik : i = k
      · subst hik; simp at hb; simp [hb]
      · by_cases hlt : i < k
        · simp [hlt, show i < k + 1 by omega]
        · simp [hlt, show ¬ i < k + 1 by omega]
/-- a set of the first strokes -/
def Low (s a : Nat) : Prop := ∀ j, s ≤ j → a.testBit j = false
theorem low_lt {s a : Nat} (h : a < 2 ^ s) : Low s a := fun j hj => Nat.testBit_lt_two_pow (Nat.lt_of_lt_of_le h (Nat.pow_le_pow_right (by omega) hj))
theorem lt_low {s a : Nat} (h : Low s a) : a < 2 ^ s := Nat.lt_pow_two_of_testBit a fun i hi => h i hi
theorem low_1024 {s a : Nat} (hs : s ≤ 10) (h : Low s a) : a < 1024 := Nat.lt_of_lt_of_le (lt_low h) (Nat.pow_le_pow_right (n := 2) (by omega) hs)
theorem nam_bit {s : Nat} {f g : Nat → Nat} (h : Ren s f g) (m : Nat) {i : Nat} (hi : i < s) : (namTo f m s).testBit (f i) = m.testBit i := by
  rw [(namTo_bits h m s (Nat.le_refl _)).2.1 i hi]; simp [hi]
theorem nam_low {s : Nat} {f g : Nat → Nat} (h : Ren s f g) (m : Nat) : Low s (namTo f m s) := (namTo_bits h m s (Nat.le_refl _)).2.2
theorem nam_ext {s : Nat} {f g : Nat → Nat} (h : Ren s f g) {m x : Nat} (h1 : ∀ i, i < s → x.testBit (f i) = m.testBit i) (h2 : Low s x) : x = namTo f m s := by
  apply Nat.eq_of_testBit_eq
  intro j
  by_cases hj : j < s
  · have := h1 (g j) (h.gl j hj)
    rw [← nam_bit h m (h.gl j hj), h.fg j hj] at this
    exact this
  · rw [h2 j (by omega), nam_low h m j (by omega)]
theorem nam_nam {s : Nat} {f g : Nat → Nat} (h : Ren s f g) {m : Nat} (hm : Low s m) : namTo g (namTo f m s) s = m := by
  symm
  refine nam_ext h.symm (fun i hi => ?_) hm
  have := nam_bit h m (h.gl i hi)
  rw [h.fg i hi] at this
  exact this.symm
theorem nam_inj {s : Nat} {f g : Nat → Nat} (h : Ren s f g) {a b : Nat} (ha : Low s a) (hb : Low s b) (e : namTo f a s = namTo f b s) : a = b := by
  rw [← nam_nam h ha, ← nam_nam h hb, e]
theorem low_and {s a b : Nat} (ha : Low s a) : Low s (a &&& b) := fun j hj => by rw [Nat.testBit_and, ha j hj]; rfl
theorem low_dif {s a b : Nat} (hs : s ≤ 10) (ha : Low s a) (hb : Low s b) : Low s (dif a b) := fun j hj => by rw [dif_bit a b j (low_1024 hs hb), ha j hj]; rfl
theorem nam_and {s : Nat} {f g : Nat → Nat} (h : Ren s f g) {a b : Nat} : namTo f a s &&& namTo f b s = namTo f (a &&& b) s :=
  nam_ext h (fun i hi => by rw [Nat.testBit_and, nam_bit h a hi, nam_bit h b hi, Nat.testBit_and]) (low_and (nam_low h a))
theorem nam_dif {s : Nat} {f g : Nat → Nat} (h : Ren s f g) {a b : Nat} (hb : Low s b) : dif (namTo f a s) (namTo f b s) = namTo f (dif a b) s := by
  have h10 := h.s10
  refine nam_ext h (fun i hi => ?_) (low_dif h10 (nam_low h a) (nam_low h b))
  have := h.fl i hi
  rw [dif_bit _ _ _ (low_1024 h10 (nam_low h b)), nam_bit h a hi, nam_bit h b hi, dif_bit a b i (low_1024 h10 hb)]
  simp [show i < 10 by omega, show f i < 10 by omega]
theorem countP_low {s a : Nat} (hs : s ≤ 10) (ha : Low s a) : pc a = (List.range s).countP fun i => a.testBit i := by
  rw [pc_count, show (10 : Nat) = s + (10 - s) by omega, List.range_add, List.countP_append]
  have : List.countP (fun i => a.testBit i) ((List.range (10 - s)).map fun x => s + x) = 0 := by
    rw [List.countP_eq_zero]
    intro x hx
    obtain ⟨y, -, rfl⟩ := List.mem_map.1 hx
    rw [ha (s + y) (by omega)]; simp
  rw [this]; rfl
theorem le_of_sub {α : Type} [BEq α] [LawfulBEq α] : ∀ (p q : List α), p.Nodup → (∀ x, x ∈ p → x ∈ q) → p.length ≤ q.length
  | [], _, _, _ => Nat.zero_le _
  | x :: p, q, hn, hs => by
    have hx := hs x (by simp)
    have h1 := le_of_sub p (q.erase x) (List.nodup_cons.1 hn).2 fun y hy => by
      refine (List.mem_erase_of_ne ?_).2 (hs y (by simp [hy]))
      rintro rfl
      exact (List.nodup_cons.1 hn).1 hy
    rw [List.length_erase_of_mem hx] at h1
    have := List.length_pos_of_mem hx
    simp; omega
theorem count_le {p q : Nat → Bool} {n : Nat} (f : Nat → Nat) (h1 : ∀ i, i < n → p i = true → f i < n ∧ q (f i) = true) (h2 : ∀ i j, i < n → j < n → f i = f j → i = j) :
    ((List.range n).filter p).length ≤ ((List.range n).filter q).length := by
  have := le_of_sub (((List.range n).filter p).map f) ((List.range n).filter q) (by
    refine List.Pairwise.map f (R := fun a b => a < n ∧ b < n ∧ a ≠ b) ?_ ?_
    · rintro a b ⟨ha, hb, hne⟩ e
      exact hne (h2 a b ha hb e)
    · refine List.Pairwise.imp_of_mem ?_ ((List.nodup_range).filter _)
      intro a b ha hb hne
      exact ⟨List.mem_range.1 (List.mem_filter.1 ha).1, List.mem_range.1 (List.mem_filter.1 hb).1, hne⟩) (by
    intro x hx
    obtain ⟨i, hi, rfl⟩ := List.mem_map.1 hx
    rw [List.mem_filter, List.mem_range] at hi
    obtain ⟨a, b⟩ := h1 i hi.1 hi.2
    exact List.mem_filter.2 ⟨List.mem_range.2 a, b⟩)
  rwa [List.length_map] at this
theorem nam_pc_le {s : Nat} {f g : Nat → Nat} (h : Ren s f g) {a : Nat} (ha : Low s a) : pc a ≤ pc (namTo f a s) := by
  rw [countP_low h.s10 ha, countP_low h.s10 (nam_low h a), List.countP_eq_length_filter, List.countP_eq_length_filter]
  exact count_le f (fun i hi hp => ⟨h.fl i hi, by rw [nam_bit h a hi]; exact hp⟩) fun i j hi hj e => h.inj hi hj e
theorem nam_pc {s : Nat} {f g : Nat → Nat} (h : Ren s f g) {a : Nat} (ha : Low s a) : pc (namTo f a s) = pc a := by
  have h1 := nam_pc_le h ha
  have h2 := nam_pc_le h.symm (nam_low h a)
  rw [nam_nam h ha] at h2
  omega
theorem nam_sub {s : Nat} {f g : Nat → Nat} (h : Ren s f g) {a b : Nat} (ha : Low s a) : (namTo f a s &&& namTo f b s = namTo f a s) ↔ a &&& b = a := by
  rw [nam_and h]
  exact ⟨fun e => nam_inj h (low_and ha) ha e, fun e => by rw [e]⟩
theorem nam_canBe {s : Nat} {f g : Nat → Nat} (h : Ren s f g) {w m : Nat} (hw : Low s w) (hm : Low s m) (loss : Int) : canBe (namTo f w s) (namTo f m s) loss = canBe w m loss := by
  unfold canBe
  rw [nam_dif h hw, nam_pc h (low_dif h.s10 hm hw), decide_eq_decide.2 (nam_sub h hw)]
theorem nam_far {s : Nat} {f g : Nat → Nat} (h : Ren s f g) {a b : Nat} (ha : Low s a) (hb : Low s b) : farN (namTo f a s) (namTo f b s) = farN a b := by
  unfold farN
  rw [nam_dif h hb, nam_dif h ha, nam_pc h (low_dif h.s10 ha hb), nam_pc h (low_dif h.s10 hb ha)]
theorem nam_zero {s : Nat} {f g : Nat → Nat} (h : Ren s f g) {m : Nat} (hm : Low s m) (e : namTo f m s = 0) : m = 0 := by
  have := nam_nam h hm
  rw [e] at this
  rw [← this]
  symm
  refine nam_ext h.symm (fun i _ => by simp) fun j _ => by simp

/-- an office, and the same one with other names -/
structure RenL (a0 a1 : Int) (f g : Nat → Nat) (l l' : List Int) : Prop where
  ho : officeN a0 a1 l = 0
  ho' : officeN a0 a1 l' = 0
  ren : Ren a0.toNat f g
  len : l'.length = l.length
  mks : ∀ i, i < l.length → mk l' i = namTo f (mk l i) a0.toNat
theorem all_nat {a0 : Int} : allN a0 + 1 = ((2 ^ a0.toNat : Nat) : Int) := by simp [allN]
theorem mk_low {a0 a1 : Int} {l : List Int} (ho : officeN a0 a1 l = 0) {i : Nat} (h : i < l.length) : Low a0.toNat (mk l i) := by
  have h1 := mk_all ho h
  have h2 := @all_nat a0
  exact low_lt (by omega)
theorem RenL.symm {a0 a1 : Int} {f g : Nat → Nat} {l l' : List Int} (h : RenL a0 a1 f g l l') : RenL a0 a1 g f l' l :=
  ⟨h.ho', h.ho, h.ren.symm, h.len.symm, fun i hi => by
    have hi' : i < l.length := by rw [← h.len]; exact hi
    rw [h.mks i hi', nam_nam h.ren (mk_low h.ho hi')]⟩
theorem nam_office {a0 a1 : Int} {f g : Nat → Nat} {l l' : List Int} (ho : officeN a0 a1 l = 0) (hr : Ren a0.toNat f g) (hl : l'.length = l.length) (hm : ∀ i, i < l.length → rd l' (i : Int) = (namTo f (mk l i) a0.toNat : Int)) : RenL a0 a1 f g l l' := by
  have hz := office_zero ho
  refine ⟨ho, ?_, hr, hl, fun i hi => by rw [mk, hm i hi]; simp⟩
  have hall : ∀ x ∈ l', 1 ≤ x ∧ x ≤ allN a0 := by
    intro x hx
    obtain ⟨i, hi, rfl⟩ := List.getElem_of_mem hx
    have hi' : i < l.length := by omega
    have e := hm i hi'
    have e2 : rd l' (i : Int) = l'[i] := by simp [rd, hi]
    have h1 := lt_low (nam_low hr (mk l i))
    have h2 := @all_nat a0
    have h3 : namTo f (mk l i) a0.toNat ≠ 0 := fun h0 => by
      have := nam_zero hr (mk_low ho hi') h0
      have := mk_pos ho hi'
      omega
    rw [← e2, e]
    omega
  unfold officeN at ho ⊢
  have h3 : l'.any (outB 1 (allN a0)) = false := by
    rw [List.any_eq_false]
    intro x hx
    have := hall x hx
    simp [outB]; omega
  rw [h3, hl]
  have h4 : l.any (outB 1 (allN a0)) = false := by
    rw [List.any_eq_false]
    intro x hx
    have := hz.2.2.2.2.2 x hx
    simp [outB]; omega
  rw [h4] at ho
  exact ho
theorem nam_own {a0 a1 : Int} {f g : Nat → Nat} {l l' : List Int} (h : RenL a0 a1 f g l l') {w : Nat} (hw : Low a0.toNat w) : ∀ n, n ≤ l.length → ownN a1 l' (namTo f w a0.toNat) n = ownN a1 l w n
  | 0, _ => rfl
  | n + 1, hn => by rw [ownN, ownN, nam_own h hw n (by omega), h.mks n (by omega), nam_canBe h.ren hw (mk_low h.ho (by omega))]
theorem nam_farI {a0 a1 : Int} {f g : Nat → Nat} {l l' : List Int} (h : RenL a0 a1 f g l l') {i j : Nat} (hi : i < l.length) (hj : j < l.length) : farI (rd l' (i : Int)) (rd l' (j : Int)) = farI (rd l (i : Int)) (rd l (j : Int)) := by
  rw [farI_mk (marks_of h.ho') (by rw [h.len]; exact hi) (by rw [h.len]; exact hj), farI_mk (marks_of h.ho) hi hj, h.mks i hi, h.mks j hj, nam_far h.ren (mk_low h.ho hi) (mk_low h.ho hj)]
theorem nam_margin {a0 a1 : Int} {f g : Nat → Nat} {l l' : List Int} (h : RenL a0 a1 f g l l') : marOut a0 l' l'.length = marOut a0 l l.length := by
  have key : ∀ v, v ≤ marOut a0 l' l'.length ↔ v ≤ marOut a0 l l.length := by
    intro v
    rw [le_marOut, le_marOut, h.len]
    refine and_congr_right fun _ => ⟨fun H i j hj hi => ?_, fun H i j hj hi => ?_⟩
    · have := H i j hj hi
      rwa [nam_farI h hi (by omega)] at this
    · rw [nam_farI h hi (by omega)]; exact H i j hj hi
  exact Int.le_antisymm ((key _).1 (Int.le_refl _)) ((key _).2 (Int.le_refl _))
theorem nam_told {a0 a1 : Int} {f g : Nat → Nat} {l l' : List Int} (h : RenL a0 a1 f g l l') {ow : Nat} (how : ow < l.length) : toldTo a1 l' (ow : Int) l'.length = toldTo a1 l (ow : Int) l.length := by
  have key : ∀ v, v ≤ toldTo a1 l' (ow : Int) l'.length ↔ v ≤ toldTo a1 l (ow : Int) l.length := by
    intro v
    have how' : ow < l'.length := by rw [h.len]; exact how
    rw [le_toldTo h.ho' how' (Nat.le_refl _), le_toldTo h.ho how (Nat.le_refl _), h.len]
    have hd : ∀ i j, i < l.length → j < l.length → pc (dif (mk l' i) (mk l' j)) = pc (dif (mk l i) (mk l j)) := fun i j hi hj => by
      rw [h.mks i hi, h.mks j hj, nam_dif h.ren (mk_low h.ho hj), nam_pc h.ren (low_dif h.ren.s10 (mk_low h.ho hi) (mk_low h.ho hj))]
    refine and_congr_right fun _ => ⟨fun H i hi hne hp => ?_, fun H i hi hne hp => ?_⟩
    · rw [← hd ow i how hi]; exact H i hi hne (by rw [hd i ow hi how]; exact hp)
    · rw [hd ow i how hi]; exact H i hi hne (by rw [← hd i ow hi how]; exact hp)
  exact Int.le_antisymm ((key _).1 (Int.le_refl _)) ((key _).2 (Int.le_refl _))
theorem nam_freeP {a0 a1 : Int} {f g : Nat → Nat} {l l' : List Int} (h : RenL a0 a1 f g l l') {m : Nat} (hm : Low a0.toNat m) (hp : freeP l a1 m = true) : freeP l' a1 (namTo f m a0.toNat) = true := by
  rw [freeP_iff h.ho' (low_1024 h.ren.s10 (nam_low h.ren m))]
  rw [freeP_iff h.ho (low_1024 h.ren.s10 hm)] at hp
  intro i hi
  rw [h.len] at hi
  rw [h.mks i hi, nam_far h.ren hm (mk_low h.ho hi)]
  exact hp i hi
theorem nam_free_le {a0 a1 : Int} {f g : Nat → Nat} {l l' : List Int} (h : RenL a0 a1 f g l l') : (freeTo a1 l (allN a0).toNat).length ≤ (freeTo a1 l' (allN a0).toNat).length := by
  rw [free_filter, free_filter, List.length_map, List.length_map]
  have h2 := @all_nat a0
  have hp : 0 < 2 ^ a0.toNat := Nat.pow_pos (by omega)
  have lw : ∀ i, i < (allN a0).toNat → Low a0.toNat (i + 1) := fun i hi => low_lt (by omega)
  have pz : ∀ i, i < (allN a0).toNat → namTo f (i + 1) a0.toNat ≠ 0 := fun i hi e => by have := nam_zero h.ren (lw i hi) e; omega
  refine count_le (fun i => namTo f (i + 1) a0.toNat - 1) (fun i hi hq => ?_) fun i j hi hj e => ?_
  · have h1 := lt_low (nam_low h.ren (i + 1))
    have h3 := pz i hi
    refine ⟨by show namTo f (i + 1) a0.toNat - 1 < _; omega, ?_⟩
    show freeP l' a1 (namTo f (i + 1) a0.toNat - 1 + 1) = true
    rw [show namTo f (i + 1) a0.toNat - 1 + 1 = namTo f (i + 1) a0.toNat by omega]
    exact nam_freeP h (lw i hi) hq
  · have h3 := pz i hi
    have h4 := pz j hj
    have e' : namTo f (i + 1) a0.toNat - 1 = namTo f (j + 1) a0.toNat - 1 := e
    have := nam_inj h.ren (lw i hi) (lw j hj) (by omega)
    omega
theorem nam_free {a0 a1 : Int} {f g : Nat → Nat} {l l' : List Int} (h : RenL a0 a1 f g l l') : (freeTo a1 l' (allN a0).toNat).length = (freeTo a1 l (allN a0).toNat).length :=
  Nat.le_antisymm (nam_free_le h.symm) (nam_free_le h)
theorem nam_tell {a0 a1 : Int} {f g : Nat → Nat} {l l' : List Int} (h : RenL a0 a1 f g l l') {ow u : Nat} (how : ow < l.length) (hu : Low a0.toNat u) (ht : tellN l ow u = true) : tellN l' ow (namTo f u a0.toNat) = true := by
  unfold tellN at ht ⊢
  rw [Bool.and_eq_true, decide_eq_true_iff, allFrom_iff] at ht ⊢
  refine ⟨by rw [h.mks ow how]; exact (nam_sub h.ren hu).2 ht.1, fun i h0 hi => ?_⟩
  rw [h.len] at hi
  have := ht.2 i h0 hi
  rw [h.mks i (by omega), nam_and h.ren]
  rw [Bool.or_eq_true, decide_eq_true_iff, Bool.not_eq_true', decide_eq_false_iff_not] at this ⊢
  refine this.imp (fun h => h) fun hn e => hn ?_
  have := nam_inj h.ren (low_and hu) hu e
  exact this
theorem nam_keep_le {a0 a1 : Int} {f g : Nat → Nat} {l l' : List Int} (h : RenL a0 a1 f g l l') {ow u : Nat} (how : ow < l.length) (hk : keepN l ow = some u) : ∃ v, keepN l' ow = some v ∧ pc v ≤ pc u := by
  have how' : ow < l'.length := by rw [h.len]; exact how
  obtain ⟨h1, h2, -⟩ := keepN_some h.ho how hk
  have hu : Low a0.toNat u := by
    have h3 := lt_low (mk_low h.ho how)
    exact low_lt (by omega)
  have ht := nam_tell h how hu h1
  cases hv : keepN l' ow with
  | none => rw [keepN_none h.ho' how' hv] at ht; cases ht
  | some v =>
    refine ⟨v, rfl, ?_⟩
    rw [← nam_pc h.ren hu]
    rcases (keepN_some h.ho' how' hv).2.2 _ ht with e | e
    · rw [e]; exact Nat.le_refl _
    · exact bef_pc e
theorem nam_keep {a0 a1 : Int} {f g : Nat → Nat} {l l' : List Int} (h : RenL a0 a1 f g l l') {ow : Nat} (how : ow < l.length) : (keepN l ow = none ∧ keepN l' ow = none) ∨ ∃ u v, keepN l ow = some u ∧ keepN l' ow = some v ∧ pc u = pc v := by
  have how' : ow < l'.length := by rw [h.len]; exact how
  cases hk : keepN l ow with
  | none =>
    left
    refine ⟨rfl, ?_⟩
    cases hv : keepN l' ow with
    | none => rfl
    | some v =>
      obtain ⟨u, e, -⟩ := nam_keep_le h.symm how' hv
      rw [hk] at e; cases e
  | some u =>
    right
    obtain ⟨v, hv, h1⟩ := nam_keep_le h how hk
    obtain ⟨u', e, h2⟩ := nam_keep_le h.symm how' hv
    rw [hk] at e
    cases e
    exact ⟨u, v, rfl, hv, by omega⟩
end Go.Proofs.Ytbhcchhhpmlpmaa.Hand

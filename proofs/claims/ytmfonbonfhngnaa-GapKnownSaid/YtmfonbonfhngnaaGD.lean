/- Texts of the claim, joined: HMat, HDel, HDeleted, HRuns, HRunsW, HRunsF, HFirst, HRunM, HRunW, HCkP, HCkQ, HCkW. -/
import Derived.Test.YtmfonbonfhngnaaGC
import Derived.Laws.OwnMore
import Derived.Laws.AppendOwnNone
import Derived.Lib.SliceRun
/- Slices of slices of numbers that a call made: what they hold, kept and changed. -/
namespace Go.Proofs.Ytmfonbonfhngnaa.Hand
set_option linter.unusedVariables false
set_option linter.unusedSimpArgs false
open Go.RowKit Go.Maps Go.Proofs.YtmfonbonfhngnaaW.PrintWords Go.Proofs.YtmfonbonfhngnaaW.PrintLast Go.Proofs.YtmfonbonfhngnaaW.PrintMore Go.Proofs.Ytmfonbonfhngnaa.PrA

/-- rows inside -/
def Inn (W : World) (base : Nat) (ps : List (Value × List Int)) : Prop := ∀ p ∈ ps, W.ownsRow base 3 1 p.1 p.2.length (nums .i64 p.2)
/-- the row of them -/
def OutR (W : World) (base : Nat) (v : Value) (ps : List (Value × List Int)) : Prop := W.ownsRow base 23 1 v ps.length (ps.map Prod.fst)
def Ap (a b : Value) : Prop := a.ownBlock = none ∨ a.ownBlock ≠ b.ownBlock
/-- no two rows inside share a block -/
def Apart (ps : List (Value × List Int)) : Prop := ∀ (i j : Nat) (p q : Value × List Int), i ≠ j → ps[i]? = some p → ps[j]? = some q → Ap p.1 q.1
theorem Ap.symm {a b : Value} (h : Ap a b) : Ap b a := by
  unfold Ap at *
  cases hb : b.ownBlock with
  | none => exact .inl rfl
  | some k =>
    refine .inr fun e => ?_
    rcases h with h | h
    · rw [h] at e; cases e
    · exact h (by rw [← e, hb])
theorem Ap.nil (a : Value) : Ap (.slice none 0 0) a := .inl rfl
theorem Ap.lt {W : World} {base n m : Nat} {e : TypeId} {s : Nat} {a b : Value} {xs : List Value} (h : W.ownsRow base e s a n xs) (hb : ∀ k, b.ownBlock = some k → W.heap.size ≤ k) (_ : m = m) : Ap a b := by
  unfold Ap
  cases ha : a.ownBlock with
  | none => exact .inl rfl
  | some k => exact .inr fun e => by have h1 := (h.lt k ha).2; have h2 := hb k e.symm; omega
theorem Inn.map {W W' : World} {base : Nat} {ps : List (Value × List Int)} (h : Inn W base ps) (hk : ∀ p ∈ ps, ∀ n xs, W.ownsRow base 3 1 p.1 n xs → W'.ownsRow base 3 1 p.1 n xs) : Inn W' base ps := fun p hp => hk p hp _ _ (h p hp)
theorem Inn.grown {W W' : World} {base base' n : Nat} {v : Value} {xs : List Value} {ps : List (Value × List Int)} (h : Inn W base ps) (ho : W.ownsRow base' 23 1 v n xs) (hg : W.grownBy W' v.ownBlock) : Inn W' base ps :=
  h.map fun _ _ _ _ h1 => h1.kept hg (own_types h1 ho (by decide))
theorem Inn.alloc {W : World} {base : Nat} {ps : List (Value × List Int)} (h : Inn W base ps) (o : Obj) : Inn (W.alloc o) base ps := h.map fun _ _ _ _ h1 => h1.alloc o
theorem Inn.below {W W' : World} {base : Nat} {ps : List (Value × List Int)} (h : Inn W base ps) (hb : Below W.heap.size W W') : Inn W' base ps := h.map fun _ _ _ _ h1 => own_below h1 hb
theorem Inn.snoc {W : World} {base : Nat} {ps : List (Value × List Int)} {q : Value × List Int} (h : Inn W base ps) (hq : W.ownsRow base 3 1 q.1 q.2.length (nums .i64 q.2)) : Inn W base (ps ++ [q]) := fun p hp => by
  rcases List.mem_append.1 hp with h1 | h1
  · exact h p h1
  · rw [List.mem_singleton.1 h1]; exact hq
theorem Inn.both {W : World} {base : Nat} {ps qs : List (Value × List Int)} (h : Inn W base ps) (hq : Inn W base qs) : Inn W base (ps ++ qs) := fun p hp => by
  rcases List.mem_append.1 hp with h1 | h1
  · exact h p h1
  · exact hq p h1
theorem Inn.sub {W : World} {base : Nat} {ps qs : List (Value × List Int)} (h : Inn W base ps) (hq : ∀ p ∈ qs, p ∈ ps) : Inn W base qs := fun p hp => h p (hq p hp)
theorem Inn.nil (W : World) (base : Nat) : Inn W base [] := fun p hp => absurd hp (by simp)
theorem OutR.nil (W : World) (base : Nat) : OutR W base (.slice none 0 0) [] := ⟨rfl, .inl ⟨rfl, rfl⟩⟩
theorem own_form {W : World} {base n : Nat} {e : TypeId} {v : Value} {xs : List Value} (h : W.ownsRow base e 1 v n xs) : ∃ A c, v = .slice A n c ∧ n ≤ c ∧ n ≤ maxLen ∧ (A = none → n = 0 ∧ c = 0) ∧ ∀ g o f, A = some ⟨g, o, f⟩ → o = 0 ∧ f = none ∧ base ≤ g ∧ g < W.heap.size := by
  have hl := h.1
  rcases h.2 with ⟨rfl, h2⟩ | ⟨g, cap, cur, rfl, hg, hh, hc, hm, _⟩
  · subst h2
    exact ⟨none, 0, rfl, Nat.le_refl _, by unfold maxLen; omega, fun _ => ⟨rfl, rfl⟩, fun _ _ _ e => by cases e⟩
  · exact ⟨some ⟨g, 0, none⟩, cap, rfl, hc, Nat.le_trans hc hm, fun e => (by cases e), fun g' o f e => by cases e; exact ⟨rfl, rfl, hg, heap_lt hh⟩⟩
theorem infoRow : (Try.prog.info? 23).map (fun i => (i.zero, i.size, i.bytes)) = some (some (.slice none 0 0), 1, 24) := by kernel_rfl
theorem OutR.cell {W : World} {base g c : Nat} {ps : List (Value × List Int)} (h : OutR W base (.slice (some ⟨g, 0, none⟩) ps.length c) ps) {j : Nat} (hj : j < ps.length) : W.cell? ⟨g, j, none⟩ = some (ps[j]).1 := by
  rw [World.ownsRow.cellAt h j (by omega)]
  simp [hj]
theorem OutR.free {W : World} {base g c : Nat} {ps : List (Value × List Int)} (h : OutR W base (.slice (some ⟨g, 0, none⟩) ps.length c) ps) (j : Nat) : W.frozen? ⟨g, j, none⟩ = false := World.ownsRow.frozenAt h j
theorem OutR.set {W : World} {base g c : Nat} {ps : List (Value × List Int)} (h : OutR W base (.slice (some ⟨g, 0, none⟩) ps.length c) ps) (j : Nat) (q : Value × List Int) :
    OutR (W.setCell ⟨g, j, none⟩ q.1) base (.slice (some ⟨g, 0, none⟩) ps.length c) (ps.set j q) := by
  have h1 := (World.ownsRow.stored h j q.1).1
  unfold OutR
  rw [List.length_set, List.map_set]
  exact h1
theorem Apart.nil : Apart [] := fun i j p q _ h => by simp at h
theorem Apart.snoc {ps : List (Value × List Int)} {x : Value × List Int} (h : Apart ps) (hx : ∀ p ∈ ps, Ap p.1 x.1) : Apart (ps ++ [x]) := by
  intro i j p q hij hi hj
  rw [List.getElem?_append] at hi hj
  split at hi <;> split at hj
  · exact h i j p q hij hi hj
  · have : j - ps.length = 0 := by
      have := (List.getElem?_eq_some_iff.1 hj).1; simp at this; omega
    rw [this] at hj; cases hj
    exact hx p (List.mem_of_getElem? hi)
  · have : i - ps.length = 0 := by
      have := (List.getElem?_eq_some_iff.1 hi).1; simp at this; omega
    rw [this] at hi; cases hi
    exact (hx q (List.mem_of_getElem? hj)).symm
  · have h1 := (List.getElem?_eq_some_iff.1 hi).1
    have h2 := (List.getElem?_eq_some_iff.1 hj).1
    simp at h1 h2; omega
theorem Apart.set {ps : List (Value × List Int)} {n : Nat} {x : Value × List Int} (h : Apart ps) (hx : ∀ j p, j ≠ n → ps[j]? = some p → Ap p.1 x.1) : Apart (ps.set n x) := by
  intro i j p q hij hi hj
  rw [List.getElem?_set] at hi hj
  split at hi <;> split at hj
  · omega
  · rename_i h1 h2
    split at hi
    · cases hi; exact (hx j q (by omega) hj).symm
    · cases hi
  · rename_i h1 h2
    split at hj
    · cases hj; exact hx i p (by omega) hi
    · cases hj
  · exact h i j p q hij hi hj
theorem Apart.cons {ps : List (Value × List Int)} {x : Value × List Int} (h : Apart (x :: ps)) : Apart ps ∧ ∀ p ∈ ps, Ap x.1 p.1 :=
  ⟨fun i j p q hij hi hj => h (i + 1) (j + 1) p q (by omega) (by simpa using hi) (by simpa using hj), fun p hp => by
    obtain ⟨i, hi⟩ := List.mem_iff_getElem?.1 hp
    exact h 0 (i + 1) x p (by omega) rfl (by simpa using hi)⟩
theorem Apart.of_cons {ps : List (Value × List Int)} {x : Value × List Int} (h : Apart ps) (hx : ∀ p ∈ ps, Ap x.1 p.1) : Apart (x :: ps) := by
  intro i j p q hij hi hj
  cases i with
  | zero =>
    cases j with
    | zero => omega
    | succ j => simp at hi hj; subst hi; exact hx q (List.mem_of_getElem? hj)
  | succ i =>
    cases j with
    | zero => simp at hi hj; subst hj; exact (hx p (List.mem_of_getElem? hi)).symm
    | succ j => exact h i j p q (by omega) (by simpa using hi) (by simpa using hj)
theorem Apart.filter {f : Value × List Int → Bool} : ∀ {ps : List (Value × List Int)}, Apart ps → Apart (ps.filter f)
  | [], h => h
  | x :: ps, h => by
    rw [List.filter_cons]
    split
    · exact (Apart.filter h.cons.1).of_cons fun p hp => h.cons.2 p (List.mem_filter.1 hp).1
    · exact Apart.filter h.cons.1
theorem Apart.both : ∀ {ps qs : List (Value × List Int)}, Apart ps → Apart qs → (∀ p ∈ ps, ∀ q ∈ qs, Ap p.1 q.1) → Apart (ps ++ qs)
  | [], qs, _, h, _ => h
  | x :: ps, qs, h, hq, hx => (Apart.both h.cons.1 hq fun p hp => hx p (List.mem_cons_of_mem _ hp)).of_cons fun p hp => by
    rcases List.mem_append.1 hp with h1 | h1
    · exact h.cons.2 p h1
    · exact hx x List.mem_cons_self p h1
theorem encs_nums (xs : List Int) : encs (Value.int .i64) xs = nums .i64 xs := rfl
/-- made: a row of rows, no two of which share a block -/
theorem mat_S {W : World} {base : Nat} {v : Value} {ps : List (Value × List Int)} (ho : OutR W base v ps) (hi : Inn W base ps) (ha : Apart ps) : Kd.S (Kd.slice 3 (Kd.int .i64)) 23 W base (fun _ => True) v (ps.map Prod.snd) := by
  obtain ⟨f, hf⟩ := Kd.reps_tag (d := Kd.slice 3 (Kd.int .i64)) (w := W) (base := base) (ok := fun k => True ∧ some k ≠ v.ownBlock) (xs := ps.map Prod.snd) (inner := ps.map Prod.fst) (fun j k => ∃ p, ps[j]? = some p ∧ p.1.ownBlock = some k)
    (fun i j k hi hj => by
      obtain ⟨p, hp, hp2⟩ := hi
      obtain ⟨q, hq, hq2⟩ := hj
      by_cases e : i = j
      · exact e
      · rcases ha i j p q e hp hq with h | h
        · rw [hp2] at h; cases h
        · exact absurd (hp2.trans hq2.symm) h)
    (fun j k hj => by
      obtain ⟨p, hp, hp2⟩ := hj
      refine ⟨trivial, fun e => ?_⟩
      rcases own_types (hi p (List.mem_of_getElem? hp)) ho (by decide) with h | h
      · rw [hp2] at h; cases h
      · exact h (by rw [hp2, e]))
    (by simp [Kd.slice])
    (fun j x hx => by
      rw [List.getElem?_map] at hx
      obtain ⟨p, hp, rfl⟩ := Option.map_eq_some_iff.1 hx
      have hlt := (List.getElem?_eq_some_iff.1 hp).1
      refine ⟨p.1, ?_, Kd.R_of_own (enc := Value.int .i64) (h1 := fun _ => rfl) (hi p (List.mem_of_getElem? hp)) (fun k hk => ⟨p, hp, hk⟩)⟩
      show ((ps.map Prod.fst).drop (j * 1)).take 1 = [p.1]
      rw [Nat.mul_one, List.drop_eq_getElem_cons (by simpa using hlt)]
      have e : ps[j] = p := (List.getElem?_eq_some_iff.1 hp).2
      simp [e])
  refine ⟨f, fun _ _ => trivial, ps.map Prod.fst, ?_, hf⟩
  rw [List.length_zipIdx, List.length_map]
  exact ho
end Go.Proofs.Ytmfonbonfhngnaa.Hand

/- slices.DeleteFunc of empty rows: what is left, in order. -/
namespace Go.Proofs.Ytmfonbonfhngnaa.Hand
set_option linter.unusedVariables false
set_option linter.unusedSimpArgs false
open Go.RowKit Go.Maps Go.Proofs.YtmfonbonfhngnaaW.PrintWords Go.Proofs.YtmfonbonfhngnaaW.PrintLast Go.Proofs.YtmfonbonfhngnaaW.PrintMore Go.Proofs.Ytmfonbonfhngnaa.PrA

theorem none_any (A : Option Addr) (n c : Nat) (w : World) : Calls Try.prog 76 #[.slice A n c] w fun e w' => e = .returned (.bool (n == 0)) ∧ w = w' := by
  by_cases h : n = 0
  · subst h
    go_enter Try.func76, Try.ntmps76
    go_wp2
    go_ret
    exact ⟨rfl, rfl⟩
  · have hb : ((n : Int) == 0) = false := beq_eq_false_iff_ne.2 (by omega)
    have hc : (n == 0) = false := beq_eq_false_iff_ne.2 h
    rw [hc]
    clear hc
    go_enter Try.func76, Try.ntmps76
    go_wp2
    go_ret
    exact ⟨rfl, rfl⟩
def mtB (p : Value × List Int) : Bool := p.2.length == 0
def idxR (ps : List (Value × List Int)) : Int := if ps.findIdx mtB < ps.length then (ps.findIdx mtB : Nat) else -1
theorem idxR_at {ps : List (Value × List Int)} {k : Nat} (hk : k < ps.length) (h0 : ∀ j (h : j < ps.length), j < k → mtB ps[j] = false) (h1 : mtB ps[k] = true) : idxR ps = k := by
  have : ps.findIdx mtB = k := (List.findIdx_eq hk).2 ⟨h1, fun j hj => h0 j (by omega) hj⟩
  unfold idxR
  rw [this, if_pos hk]
theorem idxR_none {ps : List (Value × List Int)} (h0 : ∀ j (h : j < ps.length), mtB ps[j] = false) : idxR ps = -1 := by
  unfold idxR
  rw [if_neg]
  intro h
  have h1 := List.findIdx_getElem (xs := ps) (p := mtB) (w := h)
  rw [h0 _ h] at h1
  cases h1
set_option maxHeartbeats 1000000 in
theorem indexr_any (A : Option Addr) (c base : Nat) (ps : List (Value × List Int)) (w : World) (ho : OutR w base (.slice A ps.length c) ps) (hi : Inn w base ps) :
    Calls Try.prog 74 #[.slice A ps.length c, .func (.func 76) #[] #[]] w fun e w' => e = .returned (.int .i64 (idxR ps)) ∧ w = w' := by
  obtain ⟨A', c', e, hc, hm, -, hA⟩ := own_form ho
  cases e
  have hm : ps.length ≤ 9223372036854775807 := hm
  have HO := Lib.hid (And.intro ho (And.intro hi hA))
  clear ho hi hA
  go_enter Try.func74, Try.ntmps74
  go_wp2
  go_loop [8] (fun i => ∃ k : Nat, k ≤ ps.length ∧ i = .int .i64 k ∧ Hid (∀ j (h : j < ps.length), j < k → mtB ps[j] = false)) (fun i => ps.length - (intOf i).toNat)
  case atStart => exact ⟨0, Nat.zero_le _, rfl, Lib.hid (fun j _ hj => absurd hj (Nat.not_lt_zero _))⟩
  case round =>
    obtain ⟨k, hk, rfl, HA⟩ := hrel
    by_cases hlt : k < ps.length
    · have k0 : (0 : Int) ≤ (k : Int) := by omega
      have hlti : (k : Int) < (ps.length : Int) := by omega
      obtain ⟨g, rfl⟩ : ∃ g, A = some ⟨g, 0, none⟩ := by
        rcases HO.out.1.2 with ⟨h1, h2⟩ | ⟨g, cap, cur, h1, _⟩
        · omega
        · cases h1; exact ⟨g, rfl⟩
      have hx := HO.out.1.cell hlt
      obtain ⟨A1, c1, e1, -⟩ := own_form (HO.out.2.1 ps[k] (List.getElem_mem hlt))
      rw [e1] at hx
      obtain ⟨n1, hn1⟩ : ∃ n1, n1 = ps[k].2.length := ⟨_, rfl⟩
      rw [← hn1] at hx
      have HM : Hid (mtB ps[k] = (n1 == 0)) := Lib.hid (by unfold mtB; rw [hn1])
      clear hn1 e1
      cases hb : (n1 == 0)
      · have HB := Lib.hid hb
        rw [hb] at HM
        have HN := none_any A1 n1 c1 w
        rw [hb] at HN
        have HN := Lib.hid HN
        clear hb
        go_wp2_with (go_at_call 76; refine (HN.out).mono ?_; rintro e w' ⟨rfl, rfl⟩)
        go_round
        case rel => exact ⟨k + 1, by omega, by go_num, Lib.hid (fun j h hj => by
          by_cases e : j = k
          · subst e; exact HM.out
          · exact HA.out j h (by omega))⟩
        case measure => simp [intOf]; omega
      · have HB := Lib.hid hb
        rw [hb] at HM
        have HN := none_any A1 n1 c1 w
        rw [hb] at HN
        have HN := Lib.hid HN
        clear hb
        go_wp2_with (go_at_call 76; refine (HN.out).mono ?_; rintro e w' ⟨rfl, rfl⟩)
        go_ret
        exact ⟨by rw [idxR_at hlt HA.out HM.out]; rfl, rfl⟩
    · have hnl : ¬ (k : Int) < (ps.length : Int) := by omega
      go_wp2
      go_ret
      exact ⟨by rw [idxR_none (fun j h => HA.out j h (by omega))]; rfl, rfl⟩

theorem full_idx {ps : List (Value × List Int)} (h : idxR ps = -1) : ps.filter (fun p => !mtB p) = ps := by
  rw [List.filter_eq_self]
  intro p hp
  cases hb : mtB p
  · rfl
  · exfalso
    have h1 : ps.findIdx mtB < ps.length := List.findIdx_lt_length_of_exists ⟨p, hp, hb⟩
    unfold idxR at h
    rw [if_pos h1] at h
    omega
theorem some_idx {ps : List (Value × List Int)} (h : idxR ps ≠ -1) : ∃ k, k < ps.length ∧ idxR ps = (k : Int) ∧ (ps.take (k + 1)).filter (fun p => !mtB p) = ps.take k := by
  have h1 : ps.findIdx mtB < ps.length := by
    by_cases h1 : ps.findIdx mtB < ps.length
    · exact h1
    · exact absurd (by unfold idxR; rw [if_neg h1]) h
  refine ⟨ps.findIdx mtB, h1, by unfold idxR; rw [if_pos h1], ?_⟩
  rw [List.take_succ_eq_append_getElem h1, List.filter_append, List.filter_eq_self.2]
  · have h2 := List.findIdx_getElem (xs := ps) (p := mtB) (w := h1)
    simp [h2]
  · intro p hp
    obtain ⟨j, hj, rfl⟩ := List.mem_iff_getElem.1 hp
    have hj' : j < ps.findIdx mtB := by rw [List.length_take] at hj; omega
    rw [List.getElem_take]
    have := List.not_of_lt_findIdx hj'
    simp only [Bool.not_eq_true'] at *
    simpa using this
/-- the cells behind are cleared: those before stay -/
theorem own_cleared {W : World} {base g c n m k : Nat} {e : TypeId} {z : Value} {xs : List Value} (h : W.ownsRow base e 1 (.slice (some ⟨g, 0, none⟩) n c) n xs) (hm : m ≤ n) (hk : m + k = n) :
    (W.setCells g m (List.replicate k z)).ownsRow base e 1 (.slice (some ⟨g, 0, none⟩) m c) m (xs.take m) ∧ W.grownBy (W.setCells g m (List.replicate k z)) (some g) := by
  rcases h.2 with ⟨hv, _⟩ | ⟨g', cap', cur, hv, hg, hh, hc, hmx, hs, ht⟩
  · cases hv
  · cases hv
    rw [setCells_row _ W g m cur e (0, 0) hh]
    refine ⟨⟨by have := h.1; simp; omega, .inr ⟨g, c, ovr cur m (List.replicate k z), rfl, hg, setRow_heap W g cur _ e (0, 0) hh, by omega, hmx, by rw [ovr_size]; exact hs, ?_⟩⟩, ⟨rfl, rfl, rfl, by simp, fun j _ hj => setRow_other W g j _ (fun e => hj (by rw [e]))⟩⟩
    rw [← ht]
    apply List.ext_getElem?
    intro j
    rw [List.getElem?_take, List.getElem?_take]
    by_cases hj : j < m * 1
    · rw [if_pos hj, if_pos (by omega), List.getElem?_take, if_pos (by omega)]
      have := ovr_get (List.replicate k z) cur m j (by simp; omega)
      rw [if_neg (by omega)] at this
      simpa using this
    · rw [if_neg hj, if_neg (by omega)]
theorem run_from {P : Program} (w : World) (t e : TypeId) (ht : P.underlying t = some (.slice e)) {i : TypeInfo} (hi : P.info? e = some i) (h1 : i.size = 1) (g n cap m : Nat) (hm : m < n) (h : n ≤ cap) :
    (Instr.slice t (.slice (some ⟨g, 0, none⟩) n cap) (some (.int .i64 (m : Int))) none none).run P w = .ok (.slice (some ⟨g, m, none⟩) (n - m) (cap - m)) w := by
  have hel : P.elem t = e := by simp [Program.elem, ht]
  have hu : P.underlying t = some (.slice (P.elem t)) := by rw [hel]; exact ht
  rw [run_slice_l w t _ n cap hu .i64 m (by omega) (by omega), hel]
  have h2 : ¬ cap = m := by omega
  simp [sizeOf, typeInfo, hi, sliced, Result.andThen, h1, h2, Addr.add]
  intro h0; exact h0.symm
theorem run_upto {P : Program} (w : World) (t e : TypeId) (ht : P.underlying t = some (.slice e)) {i : TypeInfo} (hi : P.info? e = some i) (g n cap m : Nat) (hm : m ≤ n) (h : n ≤ cap) :
    (Instr.slice t (.slice (some ⟨g, 0, none⟩) n cap) none (some (.int .i64 (m : Int))) none).run P w = .ok (.slice (some ⟨g, 0, none⟩) m cap) w := by
  have hel : P.elem t = e := by simp [Program.elem, ht]
  have hu : P.underlying t = some (.slice (P.elem t)) := by rw [hel]; exact ht
  rw [run_slice_h w t _ n cap hu .i64 m (by omega) (by omega), hel]
  have : ∀ a : Addr, a.add 0 = a := fun a => rfl
  simp [sizeOf, typeInfo, hi, sliced, Result.andThen, this]

end Go.Proofs.Ytmfonbonfhngnaa.Hand

/- slices.DeleteFunc of empty rows, walked. -/
namespace Go.Proofs.Ytmfonbonfhngnaa.Hand
set_option linter.unusedVariables false
set_option linter.unusedSimpArgs false
open Go.RowKit Go.Maps Go.Proofs.YtmfonbonfhngnaaW.PrintWords Go.Proofs.YtmfonbonfhngnaaW.PrintLast Go.Proofs.YtmfonbonfhngnaaW.PrintMore Go.Proofs.Ytmfonbonfhngnaa.PrA

/-- how far the row is pressed together -/
def PressAt (w W : World) (base g c : Nat) (ps cur : List (Value × List Int)) (i j : Nat) : Prop :=
  i < j ∧ j ≤ ps.length ∧ cur.length = ps.length ∧ cur.take i = (ps.take j).filter (fun p => !mtB p) ∧ cur.drop j = ps.drop j ∧ OutR W base (.slice (some ⟨g, 0, none⟩) cur.length c) cur ∧ Inn W base ps ∧ w.grownBy W (some g)
set_option maxHeartbeats 2000000 in
theorem delete_any (A : Option Addr) (c base : Nat) (ps : List (Value × List Int)) (w : World) (ho : OutR w base (.slice A ps.length c) ps) (hi : Inn w base ps) :
    Calls Try.prog 75 #[.slice A ps.length c, .func (.func 76) #[] #[]] w fun e w' => ∃ v, e = .returned v ∧ OutR w' base v (ps.filter fun p => !mtB p) ∧ Inn w' base ps ∧ w.grownBy w' (Value.ownBlock (.slice A ps.length c)) ∧ Value.ownBlock v = Value.ownBlock (.slice A ps.length c) := by
  have HX := Lib.hid (indexr_any A c base ps w ho hi)
  by_cases hx : idxR ps = -1
  · rw [hx] at HX
    have HO := Lib.hid (And.intro ho (And.intro hi (full_idx hx)))
    clear ho hi hx
    go_enter Try.func75, Try.ntmps75
    go_wp2_with (go_at_call 74; refine (HX.out).mono ?_; rintro e w' ⟨rfl, rfl⟩)
    go_ret
    exact ⟨_, rfl, by rw [HO.out.2.2]; exact HO.out.1, HO.out.2.1, World.grownBy.refl _ _, rfl⟩
  · obtain ⟨k, hk, hke, hkf⟩ := some_idx hx
    obtain ⟨g, rfl⟩ : ∃ g, A = some ⟨g, 0, none⟩ := by
      rcases ho.2 with ⟨h1, h2⟩ | ⟨g, cap, cur, h1, _⟩
      · omega
      · cases h1; exact ⟨g, rfl⟩
    rw [hke] at HX
    have hnk : ((k : Int) == -1) = false := beq_eq_false_iff_ne.2 (by omega)
    obtain ⟨_, _, e, hc, hm, -⟩ := own_form ho
    cases e
    have hm : ps.length ≤ 9223372036854775807 := hm
    have HO := Lib.hid (And.intro ho (And.intro hi hkf))
    have HK := Lib.hid hk
    obtain ⟨ir, hir, hz0, hz1, hz2⟩ := info_parts infoRow
    clear ho hi hx hke hkf
    go_enter Try.func75, Try.ntmps75
    go_wp2_with (go_at_call 74; refine (HX.out).mono ?_; rintro e w' ⟨rfl, rfl⟩)
    have HP0 : Hid (PressAt w w base g c ps ps k (k + 1)) := Lib.hid ⟨by omega, by have := HK.out; omega, rfl, HO.out.2.2.symm, rfl, HO.out.1, HO.out.2.1, World.grownBy.refl _ _⟩
    clear HX
    go_loopw [5, 6] (fun i j wr => ∃ (i' j' : Nat) (cur : List (Value × List Int)), i = .int .i64 i' ∧ j = .int .i64 j' ∧ Hid (PressAt w wr base g c ps cur i' j')) (fun _ j _ => ps.length + 1 - (intOf j).toNat)
    case atStart => exact ⟨k, k + 1, ps, rfl, by go_num, HP0⟩
    case round =>
      obtain ⟨i, j, cur, rfl, rfl, HP⟩ := hrel
      obtain ⟨wo, rfl⟩ : ∃ wo : World, wo = wr := ⟨_, rfl⟩
      have i0 : (0 : Int) ≤ (i : Int) := by omega
      have j0 : (0 : Int) ≤ (j : Int) := by omega
      have hij : (i : Int) < (j : Int) := by have := HP.out.1; omega
      have hjn : (j : Int) ≤ (ps.length : Int) := by have := HP.out.2.1; omega
      by_cases hlt : j < ps.length
      · have hlti : (j : Int) < (ps.length : Int) := by omega
        have hil : (i : Int) < (ps.length : Int) := by omega
        have hx := HP.out.2.2.2.2.2.1.cell (j := j) (by rw [HP.out.2.2.1]; exact hlt)
        have hcl : cur.length = ps.length := HP.out.2.2.1
        have hcj : cur[j]'(by rw [hcl]; exact hlt) = ps[j] := by
          have h1 := HP.out.2.2.2.2.1
          rw [List.drop_eq_getElem_cons (show j < cur.length by omega), List.drop_eq_getElem_cons hlt] at h1
          exact (List.cons.inj h1).1
        rw [hcj] at hx
        obtain ⟨A1, c1, e1, -⟩ := own_form (HP.out.2.2.2.2.2.2.1 ps[j] (List.getElem_mem hlt))
        obtain ⟨p, hp⟩ : ∃ p, p = ps[j] := ⟨_, rfl⟩
        have HJ : Hid (p = ps[j]) := Lib.hid hp
        rw [← hp] at hx e1
        have HE1 := Lib.hid e1
        rw [e1] at hx
        obtain ⟨n1, hn1⟩ : ∃ n1, n1 = p.2.length := ⟨_, rfl⟩
        rw [← hn1] at hx HE1
        have HM : Hid (mtB p = (n1 == 0)) := Lib.hid (by unfold mtB; rw [hn1])
        have hd1 : ps.drop j = p :: ps.drop (j + 1) := by rw [List.drop_eq_getElem_cons hlt, hp]
        have ht1 : ps.take (j + 1) = ps.take j ++ [p] := by rw [List.take_succ_eq_append_getElem hlt, hp]
        have HD := Lib.hid (And.intro hd1 ht1)
        clear hn1 e1 hp hcj hd1 ht1 hcl
        cases hb : (n1 == 0)
        · rw [hb] at HM
          have HN := none_any A1 n1 c1 wo
          rw [hb] at HN
          have HN := Lib.hid HN
          have fi := HP.out.2.2.2.2.2.1.free i
          have ci := HP.out.2.2.2.2.2.1.cell (j := i) (by rw [HP.out.2.2.1]; omega)
          obtain ⟨z1, hz1'⟩ : ∃ z1, z1 = (cur[i]'(by rw [HP.out.2.2.1]; omega)).1 := ⟨_, rfl⟩
          rw [← hz1'] at ci
          have HS : Hid (OutR (wo.setCell ⟨g, i, none⟩ (.slice A1 n1 c1)) base (.slice (some ⟨g, 0, none⟩) cur.length c) (cur.set i p)) := Lib.hid (by
            have := HP.out.2.2.2.2.2.1.set i p
            rw [HE1.out] at this
            exact this)
          clear hb hz1'
          go_wp2_with (go_at_call 76; refine (HN.out).mono ?_; rintro e w' ⟨rfl, rfl⟩)
          refine ⟨?rel, ?measure⟩
          case rel =>
            refine ⟨i + 1, j + 1, cur.set i p, by go_num, by go_num, Lib.hid ⟨by omega, by omega, by rw [List.length_set]; exact HP.out.2.2.1, ?_, ?_, by rw [List.length_set]; exact HS.out, ?_, ?_⟩⟩
            · rw [HD.out.2, List.filter_append, ← HP.out.2.2.2.1, List.take_succ_eq_append_getElem (by rw [List.length_set, HP.out.2.2.1]; omega)]
              rw [List.take_set_of_le (Nat.le_refl _)]
              simp [HM.out]
            · rw [List.drop_set_of_lt (by omega)]
              have h1 := HP.out.2.2.2.2.1
              rw [← List.drop_drop, ← List.drop_drop, h1]
            · exact HP.out.2.2.2.2.2.2.1.grown HP.out.2.2.2.2.2.1 (grown_set wo g i _)
            · exact HP.out.2.2.2.2.2.2.2.trans (grown_set wo g i _)
          case measure => simp [intOf]; omega
        · rw [hb] at HM
          have HN := none_any A1 n1 c1 wo
          rw [hb] at HN
          have HN := Lib.hid HN
          clear hb
          go_wp2_with (go_at_call 76; refine (HN.out).mono ?_; rintro e w' ⟨rfl, rfl⟩)
          refine ⟨?rel, ?measure⟩
          case rel =>
            refine ⟨i, j + 1, cur, rfl, by go_num, Lib.hid ⟨by omega, by omega, HP.out.2.2.1, ?_, ?_, HP.out.2.2.2.2.2.1, HP.out.2.2.2.2.2.2.1, HP.out.2.2.2.2.2.2.2⟩⟩
            · rw [HD.out.2, List.filter_append, ← HP.out.2.2.2.1]
              simp [HM.out]
            · have h1 := HP.out.2.2.2.2.1
              rw [← List.drop_drop, ← List.drop_drop, h1]
          case measure => simp [intOf]; omega
      · have hnl : ¬ (j : Int) < (ps.length : Int) := by omega
        have hin : i < ps.length := by omega
        have hsf := run_from (P := Try.prog) wo 38 23 Try.underlying38 hir hz1 g ps.length c i hin hc
        have HC := Lib.hid (own_cleared (z := .slice none 0 0) (m := i) (k := ps.length - i) HP.out.2.2.2.2.2.1 (by rw [HP.out.2.2.1]; omega) (by rw [HP.out.2.2.1]; omega))
        have hcl : ∀ ty, (Builtin.clear_ #[38] ty #[.slice (some ⟨g, i, none⟩) (ps.length - i) (c - i)]).run Try.prog wo = .ok (.tuple #[]) (wo.setCells g i (List.replicate (ps.length - i) (.slice none 0 0))) := fun ty =>
          Lib.run_clear_slice wo 38 23 ty (.slice none 0 0) Try.underlying38 (fun _ => by kernel_rfl) rfl rfl g i (ps.length - i) (c - i) (by omega)
            (fun q hq => by rw [HP.out.2.2.2.2.2.1.cell (j := i + q) (by rw [HP.out.2.2.1]; omega)]; rfl) (fun q hq => HP.out.2.2.2.2.2.1.free _)
        obtain ⟨wc, hwc⟩ : ∃ wc, wc = wo.setCells g i (List.replicate (ps.length - i) (.slice none 0 0)) := ⟨_, rfl⟩
        rw [← hwc] at hcl HC
        have hup := run_upto (P := Try.prog) wc 38 23 Try.underlying38 hir g ps.length c i (by omega) hc
        clear hwc
        go_wp2_with fail
        go_ret
        have hcl := HP.out.2.2.1
        have hjl : j = ps.length := by omega
        have hfe : cur.take i = ps.filter (fun p => !mtB p) := by
          have := HP.out.2.2.2.1
          rw [hjl, List.take_length] at this
          exact this
        refine ⟨_, rfl, ?_, HP.out.2.2.2.2.2.2.1.grown HP.out.2.2.2.2.2.1 HC.out.2, HP.out.2.2.2.2.2.2.2.trans HC.out.2, rfl⟩
        rw [← hfe]
        unfold OutR
        rw [List.map_take, List.length_take, Nat.min_eq_left (by omega)]
        exact HC.out.1
end Go.Proofs.Ytmfonbonfhngnaa.Hand

/- Runs comes to the logs alone, then the levels that are not empty. -/
namespace Go.Proofs.Ytmfonbonfhngnaa.Hand
set_option linter.unusedVariables false
set_option linter.unusedSimpArgs false
open Go.RowKit Go.Maps Go.Proofs.YtmfonbonfhngnaaW.PrintWords Go.Proofs.YtmfonbonfhngnaaW.PrintLast Go.Proofs.YtmfonbonfhngnaaW.PrintMore Go.Proofs.Ytmfonbonfhngnaa.PrA

def padTo (lv : List (List Int)) (f : Nat) : List (List Int) := lv ++ List.replicate (f + 1 - lv.length) []
/-- level by level -/
def runsL (G : Nat → Int) : Nat → Nat → List (List Int) → List (List Int) → Option (List (List Int) × List (List Int))
  | 0, _, lv, out => some (lv, out)
  | k + 1, i, lv, out =>
    if G (2 * i + 3) ≤ G (2 * i + 2) then runsL G k (i + 1) lv (out ++ [[(i : Int)]])
    else if 0 ≤ G (2 * i + 2) ∧ G (2 * i + 2) < 62 then
      runsL G k (i + 1) ((padTo lv (G (2 * i + 2)).toNat).set (G (2 * i + 2)).toNat (((padTo lv (G (2 * i + 2)).toNat).getD (G (2 * i + 2)).toNat []) ++ [(i : Int)])) out
    else none

structure RunsAt (w W : World) (vo vl : Value) (po pl : List (Value × List Int)) : Prop where
  o : OutR W w.heap.size vo po
  l : OutR W w.heap.size vl pl
  ne : Ap vo vl
  io : Inn W w.heap.size po
  il : Inn W w.heap.size pl
  ao : Apart po
  al : Apart pl
  x : ∀ p ∈ po, ∀ q ∈ pl, Ap p.1 q.1
  b : Below w.heap.size w W
section
variable {w W w5 : World} {vo vl v5 : Value} {po pl : List (Value × List Int)}
theorem own_new {W : World} {base : Nat} (hb : base ≤ W.heap.size) (x : Int) : (W.alloc (.cells #[.int .i64 x] 3)).ownsRow base 3 1 (.slice (some ⟨W.heap.size, 0, none⟩) 1 1) 1 (nums .i64 [x]) :=
  World.ownsRow_lit W #[.int .i64 x] 1 hb (by unfold maxLen; omega) rfl
theorem RunsAt.addOut (h : RunsAt w W vo vl po pl) (i : Int) {W1 : World} (hW : W1 = (W.alloc (.cells #[.int .i64 i] 3)).alloc (.cells #[.slice (some ⟨W.heap.size, 0, none⟩) 1 1] 23))
    (ho : w5.ownsRow w.heap.size 23 1 v5 (po.length + 1) (po.map Prod.fst ++ [.slice (some ⟨W.heap.size, 0, none⟩) 1 1])) (hg : W1.grownBy w5 vo.ownBlock) (hat : v5.ownBlock = vo.ownBlock ∨ v5.ownBlock = some W1.heap.size) :
    RunsAt w w5 v5 vl (po ++ [(.slice (some ⟨W.heap.size, 0, none⟩) 1 1, [i])]) pl := by
  subst hW
  have hs : W.heap.size ≥ w.heap.size := h.b.size
  have o1 := (h.o.alloc (.cells #[.int .i64 i] 3)).alloc (.cells #[.slice (some ⟨W.heap.size, 0, none⟩) 1 1] 23)
  have l1 := (h.l.alloc (.cells #[.int .i64 i] 3)).alloc (.cells #[.slice (some ⟨W.heap.size, 0, none⟩) 1 1] 23)
  have n1 := (own_new hs i).alloc (.cells #[.slice (some ⟨W.heap.size, 0, none⟩) 1 1] 23)
  have n2 : w5.ownsRow w.heap.size 3 1 (.slice (some ⟨W.heap.size, 0, none⟩) 1 1) 1 (nums .i64 [i]) := n1.kept hg (own_types n1 o1 (by decide))
  have fr : ∀ {u : Value} {n : Nat} {xs : List Value} {e : TypeId}, W.ownsRow w.heap.size e 1 u n xs → Ap u (.slice (some ⟨W.heap.size, 0, none⟩) 1 1) := fun hu => Ap.lt hu (fun k e => by simp [Value.ownBlock] at e; omega) (rfl : (0 : Nat) = 0)
  refine ⟨?_, l1.kept hg h.ne.symm, ?_, ((((h.io.alloc _).alloc _).grown o1 hg).snoc n2), ((h.il.alloc _).alloc _).grown o1 hg, h.ao.snoc (fun p hp => fr (h.io p hp)), h.al, fun p hp q hq => ?_, ?_⟩
  · unfold OutR
    rw [List.length_append, List.map_append]
    exact ho
  · rcases hat with e | e
    · unfold Ap; rw [e]; exact h.ne
    · exact (Ap.lt h.l (fun k e2 => by rw [e] at e2; cases e2; simp; omega) (rfl : (0 : Nat) = 0)).symm
  · rcases List.mem_append.1 hp with h1 | h1
    · exact h.x p h1 q hq
    · rw [List.mem_singleton.1 h1]; exact (fr (h.il q hq)).symm
  · exact ((h.b.alloc h.b.size _).alloc (by have := h.b.size; simp; omega) _).grown hg (by have := h.b.size; simp; omega) (fun j e => own_from o1 e)
theorem RunsAt.addNil (h : RunsAt w W vo vl po pl) {W1 : World} (hW : W1 = W.alloc (.cells #[.slice none 0 0] 23))
    (ho : w5.ownsRow w.heap.size 23 1 v5 (pl.length + 1) (pl.map Prod.fst ++ [.slice none 0 0])) (hg : W1.grownBy w5 vl.ownBlock) (hat : v5.ownBlock = vl.ownBlock ∨ v5.ownBlock = some W1.heap.size) :
    RunsAt w w5 vo v5 po (pl ++ [(.slice none 0 0, [])]) := by
  subst hW
  have hs : W.heap.size ≥ w.heap.size := h.b.size
  have o1 := h.o.alloc (.cells #[.slice none 0 0] 23)
  have l1 := h.l.alloc (.cells #[.slice none 0 0] 23)
  have n2 : w5.ownsRow w.heap.size 3 1 (.slice none 0 0) 0 (nums .i64 []) := ⟨rfl, .inl ⟨rfl, rfl⟩⟩
  refine ⟨o1.kept hg h.ne, ?_, ?_, (h.io.alloc _).grown l1 hg, ((h.il.alloc _).grown l1 hg).snoc n2, h.ao, h.al.snoc (fun p _ => (Ap.nil _).symm), fun p hp q hq => ?_, ?_⟩
  · unfold OutR
    rw [List.length_append, List.map_append]
    exact ho
  · rcases hat with e | e
    · have := h.ne; unfold Ap; rw [e]; exact this
    · exact Ap.lt h.o (fun k e2 => by rw [e] at e2; cases e2; simp) (rfl : (0 : Nat) = 0)
  · rcases List.mem_append.1 hq with h1 | h1
    · exact h.x p hp q h1
    · rw [List.mem_singleton.1 h1]; exact (Ap.nil _).symm
  · exact (h.b.alloc h.b.size _).grown hg (by have := h.b.size; simp; omega) (fun j e => own_from l1 e)
theorem RunsAt.addTo {g c : Nat} (h : RunsAt w W vo (.slice (some ⟨g, 0, none⟩) pl.length c) po pl) (i : Int) {f : Nat} (hf : f < pl.length) {u' : Value} {W1 : World} (hW : W1 = W.alloc (.cells #[.int .i64 i] 3))
    (ho : w5.ownsRow w.heap.size 3 1 u' (pl[f].2.length + 1) (nums .i64 pl[f].2 ++ [.int .i64 i])) (hg : W1.grownBy w5 pl[f].1.ownBlock) (hat : u'.ownBlock = pl[f].1.ownBlock ∨ u'.ownBlock = some W1.heap.size) :
    RunsAt w (w5.setCell ⟨g, f, none⟩ u') vo (.slice (some ⟨g, 0, none⟩) pl.length c) po (pl.set f (u', pl[f].2 ++ [i])) := by
  subst hW
  have hs : W.heap.size ≥ w.heap.size := h.b.size
  have o1 := h.o.alloc (.cells #[.int .i64 i] 3)
  have l1 := h.l.alloc (.cells #[.int .i64 i] 3)
  have u1 := (h.il pl[f] (List.getElem_mem hf)).alloc (.cells #[.int .i64 i] 3)
  have gs := grown_set w5 g f u'
  have o2 : OutR w5 w.heap.size vo po := o1.kept hg (own_types o1 u1 (by decide))
  have l2 : OutR w5 w.heap.size (.slice (some ⟨g, 0, none⟩) pl.length c) pl := l1.kept hg (own_types l1 u1 (by decide))
  have n2 : w5.ownsRow w.heap.size 3 1 u' (pl[f].2 ++ [i]).length (nums .i64 (pl[f].2 ++ [i])) := by
    rw [List.length_append, show nums .i64 (pl[f].2 ++ [i]) = nums .i64 pl[f].2 ++ [.int .i64 i] by simp [nums]]
    exact ho
  have hx2 : ∀ {v : Value} {n : Nat} {xs : List Value} {e : TypeId}, Ap v pl[f].1 → W.ownsRow w.heap.size e 1 v n xs → Ap v u' := fun ha hv => by
    rcases hat with e | e
    · unfold Ap; rw [e]; exact ha
    · exact Ap.lt hv (fun k e2 => by rw [e] at e2; cases e2; simp) (rfl : (0 : Nat) = 0)
  have ao : ∀ p ∈ po, Ap p.1 pl[f].1 := fun p hp => h.x p hp _ (List.getElem_mem hf)
  have al : ∀ j (p : Value × List Int), j ≠ f → pl[j]? = some p → Ap p.1 pl[f].1 := fun j p hj hp => h.al j f p pl[f] hj hp (List.getElem?_eq_getElem hf)
  have io2 : Inn w5 w.heap.size po := (h.io.alloc (.cells #[.int .i64 i] 3)).map fun p hp n xs h1 => h1.kept hg (ao p hp)
  have il2 : ∀ j (p : Value × List Int), j ≠ f → pl[j]? = some p → w5.ownsRow w.heap.size 3 1 p.1 p.2.length (nums .i64 p.2) := fun j p hj hp =>
    ((h.il p (List.mem_of_getElem? hp)).alloc (.cells #[.int .i64 i] 3)).kept hg (al j p hj hp)
  have il3 : Inn w5 w.heap.size (pl.set f (u', pl[f].2 ++ [i])) := fun p hp => by
    obtain ⟨j, hj⟩ := List.mem_iff_getElem?.1 hp
    rw [List.getElem?_set] at hj
    split at hj
    · cases hj; exact n2
    · rename_i hne
      exact il2 j p (by omega) hj
  have ls := l2.set f (u', pl[f].2 ++ [i])
  refine ⟨o2.kept gs ?_, ls, h.ne, io2.grown l2 gs, il3.grown l2 gs, h.ao, ?_, fun p hp q hq => ?_, ?_⟩
  · exact h.ne
  · exact h.al.set fun j p hj hp => hx2 (al j p hj hp) (h.il p (List.mem_of_getElem? hp))
  · obtain ⟨j, hj⟩ := List.mem_iff_getElem?.1 hq
    rw [List.getElem?_set] at hj
    split at hj
    · cases hj; exact hx2 (ao p hp) (h.io p hp)
    · exact h.x p hp q (List.mem_of_getElem? hj)
  · exact ((h.b.alloc h.b.size _).grown hg (by have := h.b.size; simp; omega) (fun j e => own_from u1 e)).grown gs (by have := h.b.size; have := hg.size; simp at this; omega) (fun j e => own_from l2 (by simpa [Value.ownBlock] using e))
end
end Go.Proofs.Ytmfonbonfhngnaa.Hand

/- The walk of runs. -/
namespace Go.Proofs.Ytmfonbonfhngnaa.Hand
set_option linter.unusedVariables false
set_option linter.unusedSimpArgs false
open Go.RowKit Go.Maps Go.Proofs.YtmfonbonfhngnaaW.PrintWords Go.Proofs.YtmfonbonfhngnaaW.PrintLast Go.Proofs.YtmfonbonfhngnaaW.PrintMore Go.Proofs.Ytmfonbonfhngnaa.PrA

theorem NetAt.rowLen {W : World} {B M Tb : Nat} {rv : Value} {k : Nat} {F : Nat → Nat → Int} {t : List Int} {G : Nat → Int} (h : NetAt W B M Tb rv k F t G) {i : Nat} (hi : i < 30) :
    W.cell? ⟨B, 3 + (2 * (i : Int) + 2).toNat, none⟩ = some (.int .i64 (G (2 * i + 2))) ∧ W.cell? ⟨B, 3 + (2 * (i : Int) + 3).toNat, none⟩ = some (.int .i64 (G (2 * i + 3))) := by
  rw [show (2 * (i : Int) + 2).toNat = 2 * i + 2 by omega, show (2 * (i : Int) + 3).toNat = 2 * i + 3 by omega]
  exact ⟨h.box.cell _ (by omega), h.box.cell _ (by omega)⟩
theorem RunsAt.drew {w W : World} {vo vl : Value} {po pl : List (Value × List Int)} (h : RunsAt w W vo vl po pl) (n : Nat) : RunsAt w (W.drewN n) vo vl po pl := by
  have hb := below_drewN1 W n
  exact ⟨own_below h.o hb, own_below h.l hb, h.ne, h.io.below hb, h.il.below hb, h.ao, h.al, h.x, h.b.drewN' n⟩
theorem cell_one_new' (w : World) (x : Value) (t : TypeId) {n : Nat} (hn : n = w.heap.size) : ∀ j u, [x][j]? = some u → (w.alloc (.cells #[x] t)).cell? ((⟨n, 0, none⟩ : Addr).add j) = some u := by
  subst hn
  exact cell_one_new w x t
theorem wpList_append_rows {w : World} {ops : Array Oper} {rest : List Oper} {o : Oper} {a : Act} {Q : Exit → Act → World → Prop} (hgd : o.guard = none) (s x : Operand) (ho : o.op = .call { callee := .builtin .append, args := #[s, x], argTypes := #[38, 38] })
    (base base' : Nat) (v : Value) (n : Nat) (xs : List Value) (hs : a.eval s = v) (hown : w.ownsRow base 23 1 v n xs) (vd : Value) (m : Nat) (news : List Value) (hx : a.eval x = vd) (hd : w.ownsRow base' 23 1 vd m news) (h1 : ∀ u ∈ news, u.oneCell' = true)
    (hn : n + m ≤ 1000) (hbase : base ≤ w.heap.size)
    (h : ∀ v' w', w'.ownsRow base 23 1 v' (n + m) (xs ++ news) → w.grownBy w' v.ownBlock → wpList Try.prog ops Q rest (a.put o.dst v') w') :
    wpList Try.prog ops Q (o :: rest) a w := by
  obtain ⟨ir, hir, hr0, hr1, hr2⟩ := info_parts infoRow
  rcases hd.2 with ⟨h2, h3⟩ | ⟨g, cap, cur, h2, _⟩
  · have hnews : news = [] := List.eq_nil_of_length_eq_zero (by have := hd.1; omega)
    subst hnews
    rw [h2] at hx
    refine wpList_append_own_none hgd s x 38 ho base 23 ir 1 Try.underlying38 hir v n xs hs hown hx (h v w ?_ (World.grownBy.refl _ _))
    rw [h3, List.append_nil, Nat.add_zero]
    exact hown
  · refine wpList_append_own_at _ hgd s x 38 ho base 23 ir (.slice none 0 0) 1 24 Try.underlying38 hir hr0 hr1 hr2 rfl (by decide) v n xs hs hown ⟨g, 0, none⟩ m cap news (by rw [hx, h2]) (by have := hd.1; omega) (hd.cells (g := g) (by rw [h2]; rfl)) h1 (by unfold maxLen; omega) (by omega) hbase fun v' w' a1 a2 _ _ => h v' w' a1 a2
theorem row_one {W : World} {base : Nat} {ps : List (Value × List Int)} (h : Inn W base ps) : ∀ u ∈ ps.map Prod.fst, u.oneCell' = true := fun u hu => by
  obtain ⟨p, hp, rfl⟩ := List.mem_map.1 hu
  obtain ⟨A, c, e, _⟩ := own_form (h p hp)
  rw [e]; rfl
theorem filter_snd (pl : List (Value × List Int)) : (pl.filter fun p => !mtB p).map Prod.snd = (pl.map Prod.snd).filter fun x => !(x.length == 0) := by
  induction pl with
  | nil => rfl
  | cons p pl ih =>
    simp only [List.filter_cons, List.map_cons, mtB] at *
    split
    · rename_i h; rw [List.map_cons, ih]
    · exact ih
theorem pad_step {ps : List (Value × List Int)} {f : Nat} {lv : List (List Int)} (hp : ps.map Prod.snd = lv ++ List.replicate (ps.length - lv.length) []) (hl : lv.length ≤ ps.length) (hf : ps.length < f + 1) :
    (ps ++ [(Value.slice none 0 0, ([] : List Int))]).map Prod.snd = lv ++ List.replicate ((ps ++ [(Value.slice none 0 0, ([] : List Int))]).length - lv.length) [] := by
  rw [List.map_append, hp, List.length_append, List.append_assoc]
  congr 1
  show _ ++ [[]] = _
  rw [show ps.length + [(Value.slice none 0 0, ([] : List Int))].length - lv.length = (ps.length - lv.length) + 1 by simp; omega, List.replicate_succ']
theorem pad_done {ps : List (Value × List Int)} {f : Nat} {lv : List (List Int)} (hp : ps.map Prod.snd = lv ++ List.replicate (ps.length - lv.length) []) (hl : lv.length ≤ ps.length) (hf : f < ps.length) (hs : ps.length = lv.length ∨ ps.length = f + 1) : ps.map Prod.snd = padTo lv f := by
  rw [hp, padTo]
  congr 2
  omega

set_option maxHeartbeats 4000000 in
set_option maxRecDepth 100000 in
theorem runs_any (B M Tb kF : Nat) (A : Option Addr) (c : Nat) (l : List Int) (F : Nat → Nat → Int) (t : List Int) (G : Nat → Int) (lv out : List (List Int)) (w : World) (h : NetAt w B M Tb (.slice A l.length c) kF F t G) (hl : l.length ≤ 30)
    (hs : runsL G l.length 0 [] [] = some (lv, out)) :
    Calls Try.prog 63 #[.pointer (some ⟨B, 0, none⟩)] w fun e w' => ∃ v ps, e = .returned v ∧ OutR w' w.heap.size v ps ∧ Inn w' w.heap.size ps ∧ Apart ps ∧ ps.map Prod.snd = out ++ lv.filter (fun x => !(x.length == 0)) ∧ Below w.heap.size w w' := by
  have c0 := h.box.c0
  have HH := Lib.hid (And.intro h (And.intro hl hs))
  have l30 : (l.length : Int) ≤ 30 := by omega
  obtain ⟨ii, hi, hz0, hz1, hz2⟩ := info_parts infoInt
  obtain ⟨ir, hir, hr0, hr1, hr2⟩ := info_parts infoRow
  have HR0 : Hid (RunsAt w w (.slice none 0 0) (.slice none 0 0) [] []) := Lib.hid ⟨OutR.nil _ _, OutR.nil _ _, Ap.nil _, Inn.nil _ _, Inn.nil _ _, Apart.nil, Apart.nil, fun p hp => absurd hp (by simp), Below.refl _ _⟩
  clear h hl hs
  go_enter Try.func63, Try.ntmps63
  go_wp2_with fail
  clear c0
  go_loopw [3, 4, 13] (fun v3 v4 i wr => ∃ (j : Nat) (po pl : List (Value × List Int)), j ≤ l.length ∧ i = .int .i64 j ∧ po.length ≤ j ∧ pl.length ≤ 62 ∧ Hid (∀ q ∈ pl, q.2.length ≤ j) ∧ Hid (RunsAt w wr v4 v3 po pl ∧ runsL G (l.length - j) j (pl.map Prod.snd) (po.map Prod.snd) = some (lv, out))) (fun _ _ i _ => 60 - (intOf i).toNat)
  case atStart => exact ⟨0, [], [], Nat.zero_le _, rfl, Nat.le_refl _, Nat.zero_le _, Lib.hid (fun q hq => absurd hq (by simp)), Lib.hid ⟨HR0.out, HH.out.2.2⟩⟩
  case round =>
    obtain ⟨j, po, pl, hj, rfl, hpo, hpl, HL, HI⟩ := hrel
    obtain ⟨wo, rfl⟩ : ∃ wo : World, wo = wr := ⟨_, rfl⟩
    obtain ⟨v4, rfl⟩ : ∃ v4, v4 = u4 := ⟨_, rfl⟩
    obtain ⟨v3, rfl⟩ : ∃ v3, v3 = u3 := ⟨_, rfl⟩
    have j0 : (0 : Int) ≤ (j : Int) := by omega
    by_cases hlt : j < l.length
    · have hlti : (j : Int) < (l.length : Int) := by omega
      have j30 : (j : Int) < 30 := by omega
      have hst := HI.out.2
      rw [show l.length - j = (l.length - (j + 1)) + 1 by omega, runsL] at hst
      have HC := Lib.hid (HH.out.1.below HI.out.1.b)
      have e1 : (0 : Int) ≤ 2 * (j : Int) + 2 := by omega
      have e2 : 2 * (j : Int) + 2 < 62 := by omega
      have e3 : (0 : Int) ≤ 2 * (j : Int) + 3 := by omega
      have e4 : 2 * (j : Int) + 3 < 62 := by omega
      have e5 : IntKind.i64.wrap (2 * (j : Int)) = 2 * (j : Int) := IntWalk.i64_in _ (by omega)
      have e6 : IntKind.i64.wrap (2 * (j : Int) + 2) = 2 * (j : Int) + 2 := IntWalk.i64_in _ (by omega)
      have e7 : IntKind.i64.wrap (2 * (j : Int) + 3) = 2 * (j : Int) + 3 := IntWalk.i64_in _ (by omega)
      obtain ⟨cf, ct⟩ := HC.out.rowLen (i := j) (by omega)
      obtain ⟨fr, hfr⟩ : ∃ fr, fr = G (2 * j + 2) := ⟨_, rfl⟩
      obtain ⟨tw, htw⟩ : ∃ tw, tw = G (2 * j + 3) := ⟨_, rfl⟩
      rw [← hfr, ← htw] at hst
      rw [← hfr] at cf
      rw [← htw] at ct
      have HJ := Lib.hid (And.intro hj hpo)
      have HIS : Hid (wo.heap.size ≥ w.heap.size) := Lib.hid HI.out.1.b.size
      clear hfr htw hj
      by_cases g : tw ≤ fr
      · have gd : decide (tw ≤ fr) = true := decide_eq_true g
        rw [if_pos g] at hst
        have HST := Lib.hid hst
        clear hst g
        go_wp2_with fail
        go_quiet (fail)
        obtain ⟨wd, hwd⟩ : ∃ wd, wd = wo.drewN nq := ⟨_, rfl⟩
        have HI2 : Hid (RunsAt w wd v4 v3 po pl) := Lib.hid (by rw [hwd]; exact HI.out.1.drew _)
        (try rw [← hwd])
        clear hwd e1 e2 e3 e4 e5 e6 e7 cf ct
        have HIS2 : Hid (wd.heap.size ≥ w.heap.size) := Lib.hid HI2.out.b.size
        go_wp2_with (first | (at_builtin; refine wpList_append_own_at _ rfl _ _ 38 rfl w.heap.size 23 ir (.slice none 0 0) 1 24 Try.underlying38 hir hr0 hr1 hr2 rfl (by decide) v4 po.length (po.map Prod.fst) rfl (((HI2.out.o.alloc _).alloc _)) ⟨wd.heap.size + 1, 0, none⟩ 1 1 [.slice (some ⟨wd.heap.size, 0, none⟩) 1 1] rfl rfl (cell_one_new' _ _ _ (by simp)) (by simp [Value.oneCell']) (by unfold maxLen; omega) (by omega) (by have := HIS2.out; simp; omega) ?_; intro v5 w5 hown5 hgrow5 _ hat5; have H5 := Lib.hid (HI2.out.addOut (j : Int) rfl hown5 hgrow5 hat5); clear hown5 hgrow5 hat5))
        go_roundw
        case rel => exact ⟨j + 1, po ++ [(.slice (some ⟨wd.heap.size, 0, none⟩) 1 1, [(j : Int)])], pl, by have := HJ.out; omega, by go_num, by simp; omega, hpl, Lib.hid (fun q hq => Nat.le_succ_of_le (HL.out q hq)), Lib.hid ⟨H5.out, by rw [List.map_append]; exact HST.out⟩⟩
        case measure => simp [intOf]; omega
      · have gd : decide (tw ≤ fr) = false := decide_eq_false g
        rw [if_neg g] at hst
        have hfg : 0 ≤ fr ∧ fr < 62 := by
          by_cases hc : 0 ≤ fr ∧ fr < 62
          · exact hc
          · rw [if_neg hc] at hst; cases hst
        rw [if_pos hfg] at hst
        obtain ⟨f, rfl⟩ : ∃ f : Nat, fr = (f : Int) := ⟨fr.toNat, by omega⟩
        rw [Int.toNat_natCast] at hst
        have f62 : f < 62 := by omega
        have f0 : (0 : Int) ≤ (f : Int) := by omega
        have HST := Lib.hid hst
        clear hst g hfg
        go_wp2_with fail
        go_quiet (fail)
        obtain ⟨wd, hwd⟩ : ∃ wd, wd = wo.drewN nq := ⟨_, rfl⟩
        have HI2 : Hid (RunsAt w wd v4 v3 po pl) := Lib.hid (by rw [hwd]; exact HI.out.1.drew _)
        (try rw [← hwd])
        clear hwd e1 e2 e3 e4 e5 e6 e7 cf ct
        have HIS2 : Hid (wd.heap.size ≥ w.heap.size) := Lib.hid HI2.out.b.size
        go_wp2_with fail
        go_loopg [3] (100 - pl.length) (fun k' x3 wq => ∃ pq : List (Value × List Int), pq.length + k' = 100 ∧ pq.length ≤ 62 ∧ Hid (RunsAt w wq v4 x3 po pq) ∧ Hid (pq.map Prod.snd = pl.map Prod.snd ++ List.replicate (pq.length - (pl.map Prod.snd).length) [] ∧ (pl.map Prod.snd).length ≤ pq.length ∧ (pq.length = (pl.map Prod.snd).length ∨ pq.length ≤ f + 1) ∧ ∀ q ∈ pq, q.2.length ≤ j))
        case atStart => exact ⟨pl, by omega, hpl, HI2, Lib.hid ⟨by simp, by simp, .inl (by simp), fun q hq => HL.out q hq⟩⟩
        case round =>
          obtain ⟨pq, hpk, hpq, HQ, HS⟩ := hrel
          obtain ⟨wq, rfl⟩ : ∃ wq : World, wq = wr := ⟨_, rfl⟩
          obtain ⟨A3, c3, rfl, -⟩ := own_form HQ.out.l
          have HISQ : Hid (wq.heap.size ≥ w.heap.size) := Lib.hid HQ.out.b.size
          obtain ⟨k2, rfl⟩ : ∃ q, gk = q + 1 := ⟨gk - 1, by omega⟩
          by_cases hle : pq.length ≤ f
          · have hlei : (pq.length : Int) ≤ (f : Int) := by omega
            go_wp2_with (first | (at_builtin; refine wpList_append_own_at _ rfl _ _ 38 rfl w.heap.size 23 ir (.slice none 0 0) 1 24 Try.underlying38 hir hr0 hr1 hr2 rfl (by decide) _ pq.length (pq.map Prod.fst) rfl (HQ.out.l.alloc _) ⟨wq.heap.size, 0, none⟩ 1 1 [.slice none 0 0] rfl rfl (cell_one_new _ _ _) (by simp [Value.oneCell']) (by unfold maxLen; omega) (by omega) (by have := HISQ.out; simp; omega) ?_; intro v5 w5 hown5 hgrow5 _ hat5; have H5 := Lib.hid (HQ.out.addNil rfl hown5 hgrow5 hat5); clear hown5 hgrow5 hat5))
            go_roundg k2
            case measure => omega
            case rel =>
              refine ⟨pq ++ [(.slice none 0 0, [])], by simp; omega, by simp; omega, H5, Lib.hid ⟨pad_step (f := f) HS.out.1 HS.out.2.1 (by omega), by rw [List.length_append]; have := HS.out.2.1; omega, .inr (by simp; omega), fun q hq => ?_⟩⟩
              rcases List.mem_append.1 hq with h1 | h1
              · exact HS.out.2.2.2 q h1
              · rw [List.mem_singleton.1 h1]; exact Nat.zero_le _
          · have hlei : ¬ (pq.length : Int) ≤ (f : Int) := by omega
            have hfq : f < pq.length := by omega
            have hfqi : (f : Int) < (pq.length : Int) := by omega
            obtain ⟨g3, rfl⟩ : ∃ g3, A3 = some ⟨g3, 0, none⟩ := by
              rcases HQ.out.l.2 with ⟨h1, h2⟩ | ⟨g3, cap, cur, h1, _⟩
              · omega
              · cases h1; exact ⟨g3, rfl⟩
            have hx := HQ.out.l.cell hfq
            obtain ⟨A1, c1, e1, -⟩ := own_form (HQ.out.il pq[f] (List.getElem_mem hfq))
            obtain ⟨pf, hpf⟩ : ∃ pf, pf = pq[f] := ⟨_, rfl⟩
            have HPF : Hid (pf = pq[f]) := Lib.hid hpf
            have hn30 : pf.2.length ≤ 30 := by
              have h1 := HS.out.2.2.2 pf (by rw [hpf]; exact List.getElem_mem hfq)
              have h2 := HJ.out.1
              omega
            have HOW : Hid (wq.ownsRow w.heap.size 3 1 pf.1 pf.2.length (nums .i64 pf.2)) := Lib.hid (by rw [hpf]; exact HQ.out.il pq[f] (List.getElem_mem hfq))
            rw [← hpf] at hx e1
            rw [e1] at hx
            have HE1 := Lib.hid e1
            obtain ⟨n1, hn1⟩ : ∃ n1, n1 = pf.2.length := ⟨_, rfl⟩
            rw [← hn1] at hx hn30 HE1
            have HN1 := Lib.hid hn1
            have HOX : Hid (wq.ownsRow w.heap.size 3 1 (.slice A1 n1 c1) n1 (nums .i64 pf.2)) := Lib.hid (by
              have := HOW.out
              rw [HE1.out, ← HN1.out] at this
              exact this)
            clear e1 hpf hn1
            go_wp2_with (first | (at_builtin; refine wpList_append_own_at _ rfl _ _ 23 rfl w.heap.size 3 ii (.int .i64 0) 1 8 Try.underlying23 hi hz0 hz1 hz2 rfl (by decide) (.slice A1 n1 c1) n1 (nums .i64 pf.2) rfl (HOX.out.alloc _) ⟨wq.heap.size, 0, none⟩ 1 1 [.int .i64 (j : Int)] rfl rfl (cell_one_new _ _ _) (by simp [Value.oneCell']) (by unfold maxLen; omega) (by omega) (by have := HISQ.out; simp; omega) ?_; intro v5 w5 hown5 hgrow5 _ hat5; obtain ⟨A5, c5, rfl, -⟩ := own_form hown5; have HM5 : Hid (RunsAt w (w5.setCell ⟨g3, f, none⟩ (.slice A5 (n1 + 1) c5)) v4 (.slice (some ⟨g3, 0, none⟩) pq.length c3) po (pq.set f (.slice A5 (n1 + 1) c5, pq[f].2 ++ [(j : Int)]))) := Lib.hid (HQ.out.addTo (j : Int) hfq rfl (by rw [← HPF.out, ← HN1.out]; exact hown5) (by rw [← HPF.out, HE1.out]; exact hgrow5) (by rw [← HPF.out, HE1.out]; exact hat5)); have L5 : Hid (OutR w5 w.heap.size (.slice (some ⟨g3, 0, none⟩) pq.length c3) pq) := Lib.hid ((HQ.out.l.alloc _).kept hgrow5 (own_types (HQ.out.l.alloc _) (HOX.out.alloc (.cells #[.int .i64 (j : Int)] 3)) (by decide))); have f5 := L5.out.free f; have x5 := L5.out.cell hfq; clear hown5 hgrow5 hat5))
            go_roundw
            case rel =>
              refine ⟨j + 1, po, pq.set f (.slice A5 (n1 + 1) c5, pq[f].2 ++ [(j : Int)]), by have := HJ.out; omega, by go_num, by omega, by simp; omega, Lib.hid (fun q hq => ?_), Lib.hid ⟨HM5.out, ?_⟩⟩
              · obtain ⟨m, hm⟩ := List.mem_iff_getElem?.1 hq
                rw [List.getElem?_set] at hm
                split at hm
                · cases hm
                  have := HS.out.2.2.2 pq[f] (List.getElem_mem hfq)
                  simp; omega
                · exact Nat.le_succ_of_le (HS.out.2.2.2 q (List.mem_of_getElem? hm))
              · have hpd := pad_done (f := f) HS.out.1 HS.out.2.1 hfq (by have := HS.out.2.2.1; omega)
                have h1 := HST.out
                rw [← hpd] at h1
                rw [List.map_set]
                have h2 : (pq.map Prod.snd).getD f [] = pq[f].2 := by simp [List.getD_eq_getElem?_getD, hfq]
                rw [h2] at h1
                exact h1
            case measure => simp [intOf]; omega
    · have hnl : ¬ (j : Int) < (l.length : Int) := by omega
      have hst := HI.out.2
      rw [show l.length - j = 0 by omega, runsL] at hst
      have hlv : pl.map Prod.snd = lv ∧ po.map Prod.snd = out := by simpa using hst
      have HLV := Lib.hid hlv
      clear hst hlv
      obtain ⟨A3, c3, rfl, -⟩ := own_form HI.out.1.l
      have HDL := Lib.hid (delete_any A3 c3 w.heap.size pl wo HI.out.1.l HI.out.1.il)
      have hpo30 : po.length ≤ 30 := by have := HH.out.2.1; omega
      have HFL : Hid ((pl.filter fun p => !mtB p).length ≤ pl.length) := Lib.hid (List.length_filter_le _ _)
      have HIS : Hid (wo.heap.size ≥ w.heap.size) := Lib.hid HI.out.1.b.size
      go_wp2_with (first | (go_at_call 75; refine (HDL.out).mono ?_; rintro e w1 ⟨vd, rfl, hd⟩; obtain ⟨Ad, cd, rfl, -⟩ := own_form hd.1; have HD1 := Lib.hid hd; clear hd; have O1 : Hid (OutR w1 w.heap.size v4 po) := Lib.hid (HI.out.1.o.kept HD1.out.2.2.1 HI.out.1.ne)) | (at_builtin; refine wpList_append_rows rfl _ _ rfl w.heap.size w.heap.size v4 po.length (po.map Prod.fst) rfl O1.out _ _ _ rfl HD1.out.1 (row_one (HD1.out.2.1.sub fun p hp => (List.mem_filter.1 hp).1)) (by have := HFL.out; omega) (by have := HD1.out.2.2.1.size; have := HIS.out; omega) ?_; intro v5 w5 hown5 hgrow5; have H5 := Lib.hid (And.intro hown5 hgrow5); clear hown5 hgrow5))
      go_ret
      refine ⟨_, po ++ pl.filter (fun p => !mtB p), rfl, ?_, ?_, ?_, ?_, ?_⟩
      · unfold OutR
        rw [List.length_append, List.map_append]
        exact H5.out.1
      · exact ((HI.out.1.io.grown HI.out.1.l HD1.out.2.2.1).grown O1.out H5.out.2).both ((HD1.out.2.1.sub fun p hp => (List.mem_filter.1 hp).1).grown O1.out H5.out.2)
      · exact HI.out.1.ao.both HI.out.1.al.filter fun p hp q hq => HI.out.1.x p hp q (List.mem_filter.1 hq).1
      · rw [List.map_append, filter_snd, HLV.out.1, HLV.out.2]
      · exact (HI.out.1.b.grown HD1.out.2.2.1 HIS.out (fun k e => own_from HI.out.1.l e)).grown H5.out.2 (by have := HD1.out.2.2.1.size; have := HIS.out; omega) (fun k e => own_from O1.out e)
end Go.Proofs.Ytmfonbonfhngnaa.Hand

/- Runs. -/
namespace Go.Proofs.Ytmfonbonfhngnaa.Hand
set_option linter.unusedVariables false
set_option linter.unusedSimpArgs false
open Go.RowKit Go.Maps Go.Proofs.YtmfonbonfhngnaaW.PrintWords Go.Proofs.YtmfonbonfhngnaaW.PrintLast Go.Proofs.YtmfonbonfhngnaaW.PrintMore Go.Proofs.Ytmfonbonfhngnaa.PrA

/-- what Runs comes to -/
def gap_Runs.f (k : Nat) (l0 : List Int) (a1 : Int) : Option (List (List Int) × Int) := if openE l0 a1 ≠ 0 then some ([], openE l0 a1) else (pushF k l0 a1).bind fun r => (runsL r.2.2.2 l0.length 0 [] []).bind fun q => some (q.2 ++ q.1.filter (fun x => !(x.length == 0)), 0)
set_option maxHeartbeats 4000000 in
set_option maxRecDepth 100000 in
theorem gap_Runs.calls (k : Nat) (A0 : Option Addr) (c0 : Nat) (l0 : List Int) (a1 : Int) (r1 : List (List Int)) (r2 : Int) (w : World) (hr0 : Kd.C (Kd.int .i64) w A0 l0.length l0) (hc0 : l0.length ≤ c0) (h : gap_Runs.f k l0 a1 = some (r1, r2)) :
    Calls Try.prog 36 #[.slice A0 l0.length c0, .int .i64 a1] w fun e w' => ∃ v0_ : Value, e = .returned (.tuple #[v0_, .int .i64 r2]) ∧ Kd.S (Kd.slice 3 (Kd.int .i64)) 23 w' w.heap.size (fun _ => True) v0_ r1 ∧ Below w.heap.size w w' := by
  by_cases ho : openE l0 a1 = 0
  · rw [gap_Runs.f, if_neg (by omega)] at h
    obtain ⟨res, hp, h⟩ := Option.bind_eq_some_iff.1 h
    obtain ⟨q, hq, h⟩ := Option.bind_eq_some_iff.1 h
    have HO := Lib.hid (open_good A0 c0 l0 a1 w hr0 hc0 ho)
    have HP := Lib.hid (fun (h0 : Nat) (w1 : World) => pushed_any k A0 c0 l0 a1 res h0 w w1 hr0 hc0 ho)
    have HPP := Lib.hid hp
    have HQ := Lib.hid hq
    have HL := Lib.hid (openE_zero ho).1
    obtain ⟨rfl, rfl⟩ : q.2 ++ q.1.filter (fun x => !(x.length == 0)) = r1 ∧ 0 = r2 := by simpa using h
    clear h hp ho hr0 hq
    go_enter Try.func36, Try.ntmps36
    go_wp2_with fail
    refine HO.out.mono ?_
    rintro e w1 ⟨h0, hh, rfl, hn, hb⟩
    have HP1 := Lib.hid (HP.out h0 w1 hn hb hh HPP.out)
    have HHH := Lib.hid hh
    clear hn hb HP HPP hh
    go_wp2_with fail
    refine HP1.out.mono ?_
    rintro e w2 ⟨v, rfl, hB⟩
    obtain ⟨kF, hn, hk, hF⟩ := hB.2.1
    have HT := Lib.hid (runs_any (h0 + 2) h0 (h0 + 1) kF A0 c0 l0 res.2.1 res.2.2.1 res.2.2.2 q.1 q.2 w2 hn HL.out (by rw [HQ.out]))
    have HB2 : Hid (Below w.heap.size w w2) := Lib.hid hB.2.2.2.2
    clear hB hn hk hF
    go_wp2_with fail
    refine HT.out.mono ?_
    rintro e w3 ⟨v3, ps, rfl, h3⟩
    have H3 := Lib.hid h3
    clear h3
    go_wp2_with fail
    go_ret2
    obtain ⟨f, hf⟩ := mat_S H3.out.1 H3.out.2.1 H3.out.2.2.1
    rw [H3.out.2.2.2.1] at hf
    exact ⟨_, rfl, ⟨f, Kd.R_lower hf HB2.out.size⟩, HB2.out.trans (H3.out.2.2.2.2.mono HB2.out.size)⟩
  · rw [gap_Runs.f, if_pos ho] at h
    obtain ⟨rfl, rfl⟩ : [] = r1 ∧ openE l0 a1 = r2 := by simpa using h
    have HO := Lib.hid (open_bad A0 c0 l0 a1 w hr0 hc0 ho)
    obtain ⟨E, hE⟩ : ∃ E, E = openE l0 a1 := ⟨_, rfl⟩
    rw [← hE] at HO ho ⊢
    have hb : (E != 0) = true := bne_iff_ne.2 ho
    clear hE h hr0 ho
    go_enter Try.func36, Try.ntmps36
    go_wp2_with fail
    refine HO.out.mono ?_
    rintro e w1 ⟨rfl, hw⟩
    have HW := Lib.hid hw
    clear hw
    go_wp2_with fail
    go_ret2
    exact ⟨_, rfl, Kd.S_nil _ _ _ _ _, HW.out⟩
end Go.Proofs.Ytmfonbonfhngnaa.Hand

/- The first of the longest rows. -/
namespace Go.Proofs.Ytmfonbonfhngnaa.Hand
set_option linter.unusedVariables false
set_option linter.unusedSimpArgs false
open Go.RowKit Go.Maps Go.Proofs.YtmfonbonfhngnaaW.PrintWords Go.Proofs.YtmfonbonfhngnaaW.PrintLast Go.Proofs.YtmfonbonfhngnaaW.PrintMore Go.Proofs.Ytmfonbonfhngnaa.PrA

theorem longer_any (A B : Option Addr) (n c m d : Nat) (w : World) : Calls Try.prog 64 #[.slice A n c, .slice B m d] w fun e w' => e = .returned (.bool (decide (m < n))) ∧ w = w' := by
  by_cases h : m < n
  · have hi : (m : Int) < (n : Int) := by omega
    have hd : decide (m < n) = true := decide_eq_true h
    rw [hd]
    clear hd h
    go_enter Try.func64, Try.ntmps64
    go_wp2
    go_ret
    exact ⟨rfl, rfl⟩
  · have hi : ¬ (m : Int) < (n : Int) := by omega
    have hd : decide (m < n) = false := decide_eq_false h
    rw [hd]
    clear hd h
    go_enter Try.func64, Try.ntmps64
    go_wp2
    go_ret
    exact ⟨rfl, rfl⟩
def longS (o x : List Int) : List Int := if o.length < x.length then x else o
def firstL (l : List (List Int)) : List Int := l.foldl longS []
theorem firstL_snoc (l : List (List Int)) (x : List Int) : firstL (l ++ [x]) = longS (firstL l) x := by simp [firstL]
theorem firstL_zero (x : List Int) : firstL [x] = x := by
  simp only [firstL, List.foldl, longS]
  split
  · rfl
  · rename_i h; cases x with
    | nil => rfl
    | cons a r => simp at h
set_option maxHeartbeats 2000000 in
theorem first_any (A : Option Addr) (c base : Nat) (ps : List (Value × List Int)) (w : World) (ho : OutR w base (.slice A ps.length c) ps) (hi : Inn w base ps) :
    Calls Try.prog 65 #[.slice A ps.length c, .func (.func 64) #[] #[]] w fun e w' => (∃ v, e = .returned v ∧ w.ownsRow base 3 1 v (firstL (ps.map Prod.snd)).length (nums .i64 (firstL (ps.map Prod.snd)))) ∧ w = w' := by
  obtain ⟨A', c', e, hc, hm, -, hA⟩ := own_form ho
  cases e
  have hm : ps.length ≤ 9223372036854775807 := hm
  have HO := Lib.hid (And.intro ho hi)
  clear ho hi hA
  go_enter Try.func65, Try.ntmps65
  go_wp2
  go_loop [5, 10] (fun o i => ∃ k : Nat, k ≤ ps.length ∧ i = .int .i64 k ∧ Hid (w.ownsRow base 3 1 o (firstL ((ps.take k).map Prod.snd)).length (nums .i64 (firstL ((ps.take k).map Prod.snd))))) (fun _ i => ps.length - (intOf i).toNat)
  case atStart => exact ⟨0, Nat.zero_le _, rfl, Lib.hid ⟨rfl, .inl ⟨rfl, rfl⟩⟩⟩
  case round =>
    obtain ⟨k, hk, rfl, HA⟩ := hrel
    obtain ⟨u, rfl⟩ : ∃ u, u = u5 := ⟨_, rfl⟩
    by_cases hlt : k < ps.length
    · have k0 : (0 : Int) ≤ (k : Int) := by omega
      have hlti : (k : Int) < (ps.length : Int) := by omega
      obtain ⟨g, rfl⟩ : ∃ g, A = some ⟨g, 0, none⟩ := by
        rcases HO.out.1.2 with ⟨h1, h2⟩ | ⟨g, cap, cur, h1, _⟩
        · omega
        · cases h1; exact ⟨g, rfl⟩
      have hx := HO.out.1.cell hlt
      have HW : Hid (w.ownsRow base 3 1 ps[k].1 ps[k].2.length (nums .i64 ps[k].2)) := Lib.hid (HO.out.2 ps[k] (List.getElem_mem hlt))
      have HT : Hid ((ps.take (k + 1)).map Prod.snd = (ps.take k).map Prod.snd ++ [ps[k].2]) := Lib.hid (by rw [List.take_succ_eq_append_getElem hlt, List.map_append]; rfl)
      obtain ⟨A1, c1, e1, -⟩ := own_form HW.out
      obtain ⟨A2, c2, e2, -⟩ := own_form HA.out
      obtain ⟨x, hx'⟩ : ∃ x, x = ps[k].2 := ⟨_, rfl⟩
      obtain ⟨o, ho'⟩ : ∃ o, o = firstL ((ps.take k).map Prod.snd) := ⟨_, rfl⟩
      rw [e1] at hx HW
      rw [← hx'] at hx HW HT
      rw [← ho'] at HA e2
      subst e2
      have HO' := Lib.hid ho'
      clear e1 hx' ho'
      have HLO := Lib.hid (longer_any A1 A2 x.length c1 o.length c2 w)
      by_cases hk0 : k = 0
      · subst hk0
        have hz : ((0 : Nat) : Int) = 0 := rfl
        rw [hz] at k0 hlti ⊢
        go_wp2_with (go_at_call 64; refine (HLO.out).mono ?_; rintro e w' ⟨rfl, rfl⟩)
        refine ⟨?rel, ?measure⟩
        case rel => exact ⟨1, hlt, by go_num, Lib.hid (by rw [HT.out]; rw [show (ps.take 0).map Prod.snd ++ [x] = [x] by simp, firstL_zero]; exact HW.out)⟩
        case measure => simp [intOf]; omega
      · have hb : ((k : Int) == 0) = false := beq_eq_false_iff_ne.2 (by omega)
        by_cases hg : o.length < x.length
        · have hd : decide (o.length < x.length) = true := decide_eq_true hg
          rw [hd] at HLO
          have HG := Lib.hid hg
          clear hd hg
          go_wp2_with (go_at_call 64; refine (HLO.out).mono ?_; rintro e w' ⟨rfl, rfl⟩)
          refine ⟨?rel, ?measure⟩
          case rel => exact ⟨k + 1, hlt, by go_num, Lib.hid (by rw [HT.out, firstL_snoc, ← HO'.out, longS, if_pos HG.out]; exact HW.out)⟩
          case measure => simp [intOf]; omega
        · have hd : decide (o.length < x.length) = false := decide_eq_false hg
          rw [hd] at HLO
          have HG := Lib.hid hg
          clear hd hg
          go_wp2_with (go_at_call 64; refine (HLO.out).mono ?_; rintro e w' ⟨rfl, rfl⟩)
          refine ⟨?rel, ?measure⟩
          case rel => exact ⟨k + 1, hlt, by go_num, Lib.hid (by rw [HT.out, firstL_snoc, ← HO'.out, longS, if_neg HG.out]; exact HA.out)⟩
          case measure => simp [intOf]; omega
    · have hnl : ¬ (k : Int) < (ps.length : Int) := by omega
      have HE : Hid (ps.take k = ps) := Lib.hid (List.take_of_length_le (by omega))
      go_wp2
      go_ret
      refine ⟨⟨_, rfl, ?_⟩, rfl⟩
      have h := HA.out
      rw [HE.out] at h
      exact h
end Go.Proofs.Ytmfonbonfhngnaa.Hand

/- Run comes to the first of the longest runs, from the end on. -/
namespace Go.Proofs.Ytmfonbonfhngnaa.Hand
set_option linter.unusedVariables false
set_option linter.unusedSimpArgs false
open Go.RowKit Go.Maps Go.Proofs.YtmfonbonfhngnaaW.PrintWords Go.Proofs.YtmfonbonfhngnaaW.PrintLast Go.Proofs.YtmfonbonfhngnaaW.PrintMore Go.Proofs.Ytmfonbonfhngnaa.PrA

def restTo (l : List Int) (b : List (List Int)) (i q : Nat) : List (List Int) := ((List.range q).filter fun k => decide (i < k) && decide (rd l (k : Int) < rd l (i : Int))).map fun k => b.getD k []
def bestN (l : List Int) : Nat → List (List Int) → List (List Int)
  | 0, b => b
  | i + 1, b => bestN l i (b.set i ((i : Int) :: firstL (restTo l b i l.length)))
def runV (l : List Int) : List Int × Int := if rowE l ≠ 0 then ([], rowE l) else (firstL (bestN l l.length (List.replicate l.length [])), 0)
def gap_Run.f (l0 : List Int) : Option (List Int × Int) := some (runV l0)

theorem restTo_start (l : List Int) (b : List (List Int)) (i : Nat) : restTo l b i (i + 1) = [] := by
  unfold restTo
  rw [List.filter_eq_nil_iff.2]
  · rfl
  · intro k hk
    have : k < i + 1 := List.mem_range.1 hk
    simp; omega
theorem restTo_succ (l : List Int) (b : List (List Int)) (i q : Nat) (hq : i < q) : restTo l b i (q + 1) = restTo l b i q ++ (if rd l (q : Int) < rd l (i : Int) then [b.getD q []] else []) := by
  unfold restTo
  rw [List.range_succ, List.filter_append, List.map_append]
  congr 1
  by_cases h : rd l (q : Int) < rd l (i : Int) <;> simp [h, hq]
theorem firstL_le {L : List (List Int)} {M : Nat} (h : ∀ x ∈ L, x.length ≤ M) : (firstL L).length ≤ M := by
  unfold firstL
  suffices ∀ (L : List (List Int)) (o : List Int), o.length ≤ M → (∀ x ∈ L, x.length ≤ M) → (L.foldl longS o).length ≤ M from this L [] (Nat.zero_le _) h
  intro L
  induction L with
  | nil => exact fun o ho _ => ho
  | cons x L ih =>
    intro o ho hL
    refine ih _ ?_ (fun y hy => hL y (List.mem_cons_of_mem _ hy))
    unfold longS
    split
    · exact hL x List.mem_cons_self
    · exact ho
def LenB (n : Nat) (b : List (List Int)) : Prop := ∀ k, k < n → (b.getD k []).length ≤ n - k
theorem restTo_le {n : Nat} {l : List Int} {b : List (List Int)} (h : LenB n b) (i : Nat) : ∀ x ∈ restTo l b i n, x.length ≤ n - (i + 1) := by
  intro x hx
  obtain ⟨k, hk, rfl⟩ := List.mem_map.1 hx
  obtain ⟨h1, h2⟩ := List.mem_filter.1 hk
  have h3 : k < n := List.mem_range.1 h1
  have h4 : i < k := by simp at h2; exact h2.1
  have := h k h3
  omega
theorem LenB.set {n : Nat} {l : List Int} {b : List (List Int)} (h : LenB n b) {i : Nat} (hi : i < n) (hl : b.length = n) : LenB n (b.set i ((i : Int) :: firstL (restTo l b i n))) := by
  intro k hk
  have hf := firstL_le (restTo_le (l := l) h i)
  rw [List.getD_eq_getElem?_getD, List.getElem?_set]
  split
  · rename_i e
    subst e
    rw [if_pos (by omega)]
    show (_ :: _ : List Int).length ≤ _
    simp; omega
  · have := h k hk
    rw [List.getD_eq_getElem?_getD] at this
    exact this

theorem wpList_append_ints {w : World} {ops : Array Oper} {rest : List Oper} {o : Oper} {a : Act} {Q : Exit → Act → World → Prop} (hgd : o.guard = none) (s x : Operand) (ho : o.op = .call { callee := .builtin .append, args := #[s, x], argTypes := #[23, 23] })
    (base base' : Nat) (v : Value) (n : Nat) (xs : List Value) (hs : a.eval s = v) (hown : w.ownsRow base 3 1 v n xs) (vd : Value) (m : Nat) (news : List Value) (hx : a.eval x = vd) (hd : w.ownsRow base' 3 1 vd m news) (h1 : ∀ u ∈ news, u.oneCell' = true)
    (hn : n + m ≤ 1000) (hbase : base ≤ w.heap.size)
    (h : ∀ v' w', w'.ownsRow base 3 1 v' (n + m) (xs ++ news) → w.grownBy w' v.ownBlock → wpList Try.prog ops Q rest (a.put o.dst v') w') :
    wpList Try.prog ops Q (o :: rest) a w := by
  obtain ⟨ir, hir, hr0, hr1, hr2⟩ := info_parts infoInt
  rcases hd.2 with ⟨h2, h3⟩ | ⟨g, cap, cur, h2, _⟩
  · have hnews : news = [] := List.eq_nil_of_length_eq_zero (by have := hd.1; omega)
    subst hnews
    rw [h2] at hx
    refine wpList_append_own_none hgd s x 23 ho base 3 ir 1 Try.underlying23 hir v n xs hs hown hx (h v w ?_ (World.grownBy.refl _ _))
    rw [h3, List.append_nil, Nat.add_zero]
    exact hown
  · refine wpList_append_own_at _ hgd s x 23 ho base 3 ir (.int .i64 0) 1 8 Try.underlying23 hir hr0 hr1 hr2 rfl (by decide) v n xs hs hown ⟨g, 0, none⟩ m cap news (by rw [hx, h2]) (by have := hd.1; omega) (hd.cells (g := g) (by rw [h2]; rfl)) h1 (by unfold maxLen; omega) (by omega) hbase fun v' w' a1 a2 _ _ => h v' w' a1 a2
theorem made_rows (n : Nat) : madeCells #[.slice none 0 0] (n * 1) = (List.replicate n (Value.slice none 0 0)).toArray := by
  apply Array.ext'
  simp [madeCells]
  apply List.ext_getElem
  · simp
  · intro i h1 h2
    simp [Nat.mod_one]
theorem run_make_rows (w : World) (n : Nat) (hn : n ≤ 1000) : (Instr.makeSlice 38 (.int .i64 (n : Int)) (.int .i64 (n : Int))).run Try.prog w = .ok (.slice (some ⟨w.heap.size, 0, none⟩) n n) (w.alloc (.cells (List.replicate n (Value.slice none 0 0)).toArray 23)) := by
  obtain ⟨i0, hi, hz0, hz1, hz2⟩ := info_parts infoRow
  have h := run_make (P := Try.prog) w 38 23 i0 (.slice none 0 0) Try.underlying38 hi hz0 .i64 .i64 n n (by omega) (Int.le_refl _) (by rw [hz2]; omega) (by omega)
  rw [hz1, Int.toNat_natCast, show (Value.slice none 0 0).cells = #[.slice none 0 0] from rfl, made_rows] at h
  exact h
/-- the best runs from each log on, in memory -/
def BestAt (w W : World) (Bb n : Nat) (ps : List (Value × List Int)) : Prop :=
  OutR W w.heap.size (.slice (some ⟨Bb, 0, none⟩) ps.length n) ps ∧ Inn W w.heap.size ps ∧ Below w.heap.size w W ∧ ps.length = n ∧ LenB n (ps.map Prod.snd) ∧ Bb < W.heap.size
theorem best_start (w : World) {w1 : World} (hb : Below w.heap.size w w1) (n : Nat) (hn : n ≤ 1000) : BestAt w (w1.alloc (.cells (List.replicate n (Value.slice none 0 0)).toArray 23)) w1.heap.size n (List.replicate n (.slice none 0 0, [])) := by
  refine ⟨?_, fun p hp => ?_, hb.alloc hb.size _, by simp, fun k hk => ?_, by simp⟩
  · unfold OutR
    rw [List.length_replicate, List.map_replicate]
    exact World.ownsRow_lit w1 _ n hb.size (by unfold maxLen; omega) (by simp)
  · rw [List.eq_of_mem_replicate hp]
    exact ⟨rfl, .inl ⟨rfl, rfl⟩⟩
  · rw [List.map_replicate, List.getD_eq_getElem?_getD, List.getElem?_replicate, if_pos hk]
    exact Nat.zero_le _
/-- the runs that may go on behind a log -/
def RestAt (w W0 W : World) (Bb n : Nat) (ps rs : List (Value × List Int)) (vr : Value) : Prop := BestAt w W Bb n ps ∧ OutR W W0.heap.size vr rs ∧ (∀ r ∈ rs, r ∈ ps) ∧ W0.heap.size ≤ W.heap.size
theorem BestAt.below {w W W' : World} {Bb n : Nat} {ps : List (Value × List Int)} (h : BestAt w W Bb n ps) (hb : Below W.heap.size W W') : BestAt w W' Bb n ps :=
  ⟨own_below h.1 hb, h.2.1.below hb, h.2.2.1.trans (hb.mono h.2.2.1.size), h.2.2.2.1, h.2.2.2.2.1, by have := hb.size; have := h.2.2.2.2.2; omega⟩
theorem RestAt.below {w W0 W W' : World} {Bb n : Nat} {ps rs : List (Value × List Int)} {vr : Value} (h : RestAt w W0 W Bb n ps rs vr) (hb : Below W.heap.size W W') : RestAt w W0 W' Bb n ps rs vr :=
  ⟨h.1.below hb, own_below h.2.1 hb, h.2.2.1, Nat.le_trans h.2.2.2 hb.size⟩
theorem RestAt.more {w W0 W w5 : World} {Bb n : Nat} {ps rs : List (Value × List Int)} {vr v5 : Value} (h : RestAt w W0 W Bb n ps rs vr) (hB : Bb < W0.heap.size) (p : Value × List Int) (hp : p ∈ ps)
    (ho : w5.ownsRow W0.heap.size 23 1 v5 (rs.length + 1) (rs.map Prod.fst ++ [p.1])) (hg : (W.alloc (.cells #[p.1] 23)).grownBy w5 vr.ownBlock) : RestAt w W0 w5 Bb n ps (rs ++ [p]) v5 := by
  have l1 := h.2.1.alloc (.cells #[p.1] 23)
  have b1 := h.1.1.alloc (.cells #[p.1] 23)
  have hs := h.2.2.2
  have hz := hg.size
  refine ⟨⟨b1.kept hg (.inr fun e => ?_), (h.1.2.1.alloc _).grown l1 hg, (h.1.2.2.1.alloc h.1.2.2.1.size _).grown hg (by have := h.1.2.2.1.size; simp; omega) (fun j e => ?_), h.1.2.2.2.1, h.1.2.2.2.2.1, by have := h.1.2.2.2.2.2; simp at hz; omega⟩, ?_, fun r hr => ?_, by simp at hz; omega⟩
  · have := own_base l1 Bb (by rw [← e]; rfl); omega
  · have h1 := own_base l1 j e
    have h2 := own_base h.1.1 Bb rfl
    omega
  · unfold OutR
    rw [List.length_append, List.map_append]
    exact ho
  · rcases List.mem_append.1 hr with h1 | h1
    · exact h.2.2.1 r h1
    · rw [List.mem_singleton.1 h1]; exact hp
theorem BestAt.put {w W w5 : World} {Bb n i : Nat} {ps : List (Value × List Int)} {l fl : List Int} {v' : Value} (h : BestAt w W Bb n ps) (hi : i < n) (hf : fl = firstL (restTo l (ps.map Prod.snd) i n))
    (ho : w5.ownsRow w.heap.size 3 1 v' (1 + fl.length) (nums .i64 [(i : Int)] ++ nums .i64 fl)) (hg : (W.alloc (.cells #[.int .i64 (i : Int)] 3)).grownBy w5 (some W.heap.size)) :
    OutR w5 w.heap.size (.slice (some ⟨Bb, 0, none⟩) ps.length n) ps ∧ BestAt w (w5.setCell ⟨Bb, i, none⟩ v') Bb n (ps.set i (v', (i : Int) :: fl)) := by
  have hb := h.1.alloc (.cells #[.int .i64 (i : Int)] 3)
  have hz := hg.size
  simp at hz
  have hws := h.2.2.1.size
  have o2 : OutR w5 w.heap.size (.slice (some ⟨Bb, 0, none⟩) ps.length n) ps := hb.kept hg (.inr fun e => by
    have h1 := h.2.2.2.2.2
    have h2 : Bb = W.heap.size := by simpa [Value.ownBlock] using e
    omega)
  have i2 : Inn w5 w.heap.size ps := (h.2.1.alloc (.cells #[.int .i64 (i : Int)] 3)).map fun p hp n xs h1 => h1.kept hg (by
    cases hb : p.1.ownBlock with
    | none => exact .inl rfl
    | some k =>
      refine .inr fun e => ?_
      have h1 := (own_lt (h.2.1 p hp) k hb)
      have h2 : k = W.heap.size := by simpa using e
      omega)
  have n2 : w5.ownsRow w.heap.size 3 1 v' ((i : Int) :: fl).length (nums .i64 ((i : Int) :: fl)) := by
    rw [List.length_cons, Nat.add_comm]
    exact ho
  have gs := grown_set w5 Bb i v'
  refine ⟨o2, ?_, ?_, ?_, by rw [List.length_set]; exact h.2.2.2.1, ?_, ?_⟩
  · have := o2.set i (v', (i : Int) :: fl)
    rw [List.length_set]
    exact this
  · refine Inn.grown (fun p hp => ?_) o2 gs
    obtain ⟨j, hj⟩ := List.mem_iff_getElem?.1 hp
    rw [List.getElem?_set] at hj
    split at hj
    · split at hj
      · cases hj; exact n2
      · cases hj
    · exact i2 p (List.mem_of_getElem? hj)
  · exact ((h.2.2.1.alloc hws _).grown hg (by simp; omega) (fun j e => by cases e; exact hws)).grown gs (by omega) (fun j e => by cases e; exact own_base h.1 Bb rfl)
  · rw [List.map_set, hf]
    exact h.2.2.2.2.1.set hi (by rw [List.length_map]; exact h.2.2.2.1)
  · have := h.2.2.2.2.2
    simp; omega
end Go.Proofs.Ytmfonbonfhngnaa.Hand

/- The walk of Run. -/
namespace Go.Proofs.Ytmfonbonfhngnaa.Hand
set_option linter.unusedVariables false
set_option linter.unusedSimpArgs false
open Go.RowKit Go.Maps Go.Proofs.YtmfonbonfhngnaaW.PrintWords Go.Proofs.YtmfonbonfhngnaaW.PrintLast Go.Proofs.YtmfonbonfhngnaaW.PrintMore Go.Proofs.Ytmfonbonfhngnaa.PrA

set_option maxHeartbeats 4000000 in
set_option maxRecDepth 100000 in
theorem gap_Run.calls (A0 : Option Addr) (c0 : Nat) (l0 : List Int) (r1 : List Int) (r2 : Int) (w : World) (hr0 : Kd.C (Kd.int .i64) w A0 l0.length l0) (hc0 : l0.length ≤ c0) (h : gap_Run.f l0 = some (r1, r2)) :
    Calls Try.prog 43 #[.slice A0 l0.length c0] w fun e w' => ∃ v0_ : Value, e = .returned (.tuple #[v0_, .int .i64 r2]) ∧ Kd.R (Kd.int .i64) 3 w' w.heap.size (fun _ => True) v0_ r1 ∧ Below w.heap.size w w' := by
  have hv : runV l0 = (r1, r2) := Option.some.inj h
  clear h
  have HC := Lib.hid (gap_CheckRow.calls A0 c0 l0 (rowE l0) w hr0 hc0 (rowE_is l0))
  by_cases ho : rowE l0 = 0
  · rw [runV, if_neg (by omega)] at hv
    obtain ⟨rfl, rfl⟩ : firstL (bestN l0 l0.length (List.replicate l0.length [])) = r1 ∧ 0 = r2 := by simpa using hv
    rw [ho] at HC
    have hl : l0.length ≤ 30 := by
      unfold rowE at ho
      split at ho
      · omega
      · omega
    have HR := Lib.hid hr0
    have l30 : (l0.length : Int) ≤ 30 := by omega
    obtain ⟨res, hres⟩ : ∃ res, res = bestN l0 l0.length (List.replicate l0.length []) := ⟨_, rfl⟩
    rw [← hres]
    have HRES := Lib.hid hres
    have HL := Lib.hid hl
    obtain ⟨ii, hi, hz0, hz1, hz2⟩ := info_parts infoInt
    obtain ⟨ir, hir, hr0', hr1', hr2'⟩ := info_parts infoRow
    clear hr0 ho hv hres hl
    go_enter Try.func43, Try.ntmps43
    go_wp2_with fail
    refine HC.out.mono ?_
    rintro e w1 ⟨rfl, hw1⟩
    have hmk := run_make_rows w1 l0.length (by have := HL.out; omega)
    obtain ⟨w2, hw2⟩ : ∃ w2, w2 = w1.alloc (.cells (List.replicate l0.length (Value.slice none 0 0)).toArray 23) := ⟨_, rfl⟩
    obtain ⟨Bb, hBb⟩ : ∃ Bb, Bb = w1.heap.size := ⟨_, rfl⟩
    have HB0 : Hid (BestAt w w2 Bb l0.length (List.replicate l0.length (.slice none 0 0, []))) := Lib.hid (by rw [hw2, hBb]; exact best_start w hw1 l0.length (by have := HL.out; omega))
    rw [← hw2, ← hBb] at hmk
    clear hw1 hw2 hBb
    go_wp2_with fail
    clear hmk
    go_loopw [7] (fun i wr => ∃ (m : Nat) (ps : List (Value × List Int)), m ≤ l0.length ∧ i = .int .i64 ((m : Int) - 1) ∧ Hid (BestAt w wr Bb l0.length ps ∧ bestN l0 m (ps.map Prod.snd) = res)) (fun i _ => (intOf i + 1).toNat)
    case atStart => exact ⟨l0.length, _, Nat.le_refl _, by go_num, Lib.hid ⟨HB0.out, by rw [List.map_replicate]; exact HRES.out.symm⟩⟩
    case round =>
      obtain ⟨m, ps, hm, rfl, HI⟩ := hrel
      obtain ⟨wo, rfl⟩ : ∃ wo : World, wo = wr := ⟨_, rfl⟩
      cases m with
      | succ i =>
        have hii : (((i + 1 : Nat) : Int) - 1) = (i : Int) := by omega
        rw [hii]
        have i0 : (0 : Int) ≤ (i : Int) := by omega
        have i1 : (i : Int) < (l0.length : Int) := by omega
        have hil : i < l0.length := by omega
        have HST : Hid (bestN l0 i ((ps.map Prod.snd).set i ((i : Int) :: firstL (restTo l0 (ps.map Prod.snd) i l0.length))) = res) := Lib.hid (by have := HI.out.2; rw [bestN] at this; exact this)
        clear hii
        go_wp2_with fail
        go_loopw [8, 9] (fun v8 q' wq => ∃ (q : Nat) (rs : List (Value × List Int)), i < q ∧ q ≤ l0.length ∧ q' = .int .i64 q ∧ rs.length ≤ q ∧ Hid (RestAt w wo wq Bb l0.length ps rs v8 ∧ rs.map Prod.snd = restTo l0 (ps.map Prod.snd) i q)) (fun _ q' _ => 60 - (intOf q').toNat)
        case atStart => exact ⟨i + 1, [], by omega, by omega, by go_num, Nat.zero_le _, Lib.hid ⟨⟨HI.out.1, OutR.nil _ _, fun r hr => absurd hr (by simp), Nat.le_refl _⟩, by rw [restTo_start]; rfl⟩⟩
        case round =>
          obtain ⟨q, rs, hiq, hq, rfl, hrs, HQ⟩ := hrel
          obtain ⟨wq, rfl⟩ : ∃ wq : World, wq = wr := ⟨_, rfl⟩
          obtain ⟨v8, rfl⟩ : ∃ v8, v8 = u8 := ⟨_, rfl⟩
          have q0 : (0 : Int) ≤ (q : Int) := by omega
          by_cases hlt : q < l0.length
          · have hlti : (q : Int) < (l0.length : Int) := by omega
            obtain ⟨ad, rfl, hx⟩ := Kd.at_int HR.out (q : Int) q0 hlti
            obtain ⟨_, e', hy⟩ := Kd.at_int HR.out (i : Int) i0 i1
            cases e'
            rw [Int.toNat_natCast] at hx hy
            replace hx := (HQ.out.1.1.2.2.1.cell (cell_size hx)).trans hx
            replace hy := (HQ.out.1.1.2.2.1.cell (cell_size hy)).trans hy
            have HSU := Lib.hid (restTo_succ l0 (ps.map Prod.snd) i q hiq)
            obtain ⟨x, hx'⟩ : ∃ x, x = rd l0 (q : Int) := ⟨_, rfl⟩
            obtain ⟨y, hy'⟩ : ∃ y, y = rd l0 (i : Int) := ⟨_, rfl⟩
            rw [← hx'] at hx HSU
            rw [← hy'] at hy HSU
            clear hx' hy'
            by_cases g : x < y
            · have gd : decide (x < y) = true := decide_eq_true g
              rw [if_pos g] at HSU
              clear g
              go_wp2_with fail
              go_quiet (fail)
              obtain ⟨wd, hwd⟩ : ∃ wd, wd = wq.drewN nq := ⟨_, rfl⟩
              have HQ2 : Hid (RestAt w wo wd Bb l0.length ps rs v8) := Lib.hid (by rw [hwd]; exact HQ.out.1.below (below_drewN1 _ _))
              (try rw [← hwd])
              clear hwd hx hy
              obtain ⟨p, hpm, hcx, hgd⟩ : ∃ p : Value × List Int, p ∈ ps ∧ wd.cell? ⟨Bb, q, none⟩ = some p.1 ∧ (ps.map Prod.snd).getD q [] = p.2 := by
                have hqp : q < ps.length := by rw [HQ2.out.1.2.2.2.1]; exact hlt
                exact ⟨ps[q], List.getElem_mem hqp, HQ2.out.1.1.cell hqp, by simp [List.getD_eq_getElem?_getD, hqp]⟩
              obtain ⟨A1, c1, e1, -⟩ := own_form (HQ2.out.1.2.1 p hpm)
              rw [e1] at hcx
              obtain ⟨n1, hn1⟩ : ∃ n1, n1 = p.2.length := ⟨_, rfl⟩
              rw [← hn1] at hcx e1
              have HE1 := Lib.hid (And.intro e1 (And.intro hpm hgd))
              clear e1 hn1 hpm hgd
              go_wp2_with (first | (at_builtin; refine wpList_append_own_at _ rfl _ _ 38 rfl wo.heap.size 23 ir (.slice none 0 0) 1 24 Try.underlying38 hir hr0' hr1' hr2' rfl (by decide) v8 rs.length (rs.map Prod.fst) rfl (HQ2.out.2.1.alloc _) ⟨wd.heap.size, 0, none⟩ 1 1 [.slice A1 n1 c1] rfl rfl (cell_one_new _ _ _) (by simp [Value.oneCell']) (by unfold maxLen; omega) (by omega) (by have := HQ2.out.2.2.2; simp; omega) ?_; intro v5 w5 hown5 hgrow5 _ _; have H5 : Hid (RestAt w wo w5 Bb l0.length ps (rs ++ [p]) v5) := Lib.hid (HQ2.out.more HI.out.1.2.2.2.2.2 p HE1.out.2.1 (by rw [HE1.out.1]; exact hown5) (by rw [HE1.out.1]; exact hgrow5)); clear hown5 hgrow5))
              refine ⟨?rel, ?measure⟩
              case rel => exact ⟨q + 1, rs ++ [p], by omega, hlt, by go_num, by simp; omega, Lib.hid ⟨H5.out, by rw [List.map_append, HQ.out.2, HSU.out, HE1.out.2.2]; rfl⟩⟩
              case measure => simp [intOf]; omega
            · have gd : decide (x < y) = false := decide_eq_false g
              rw [if_neg g] at HSU
              clear g
              go_wp2_with fail
              go_quiet (fail)
              have HQ2 : Hid (RestAt w wo (wq.drewN nq) Bb l0.length ps rs v8) := Lib.hid (HQ.out.1.below (below_drewN1 _ _))
              obtain ⟨wd, hwd⟩ : ∃ wd, wd = wq.drewN nq := ⟨_, rfl⟩
              (try rw [← hwd])
              rw [← hwd] at HQ2
              clear hwd hx hy
              go_wp2_with fail
              refine ⟨?rel, ?measure⟩
              case rel => exact ⟨q + 1, rs, by omega, hlt, by go_num, by omega, Lib.hid ⟨HQ2.out, by rw [HQ.out.2, HSU.out, List.append_nil]⟩⟩
              case measure => simp [intOf]; omega
          · have hnl : ¬ (q : Int) < (l0.length : Int) := by omega
            have HRS : Hid (rs.map Prod.snd = restTo l0 (ps.map Prod.snd) i l0.length) := Lib.hid (by rw [HQ.out.2, show q = l0.length by omega])
            obtain ⟨A8, c8, rfl, -⟩ := own_form HQ.out.1.2.1
            have hbb : w.heap.size ≤ wo.heap.size := HI.out.1.2.2.1.size
            have HF := Lib.hid (first_any A8 c8 w.heap.size rs (wq.alloc (.cells #[.int .i64 (i : Int)] 3)) (own_lower (HQ.out.1.2.1.alloc _) hbb) ((HQ.out.1.1.2.1.sub HQ.out.1.2.2.1).alloc _))
            obtain ⟨fl, hfl⟩ : ∃ fl, fl = firstL (rs.map Prod.snd) := ⟨_, rfl⟩
            rw [← hfl] at HF
            have hfl30 : fl.length ≤ 30 := by
              rw [hfl, HRS.out]
              have := firstL_le (restTo_le (l := l0) HQ.out.1.1.2.2.2.2.1 i)
              have := HL.out
              omega
            have HFL : Hid (fl = firstL (restTo l0 (ps.map Prod.snd) i l0.length)) := Lib.hid (by rw [hfl, HRS.out])
            have HNW := Lib.hid (own_new (base := w.heap.size) HQ.out.1.1.2.2.1.size (i : Int))
            have HSZ : Hid (w.heap.size ≤ wq.heap.size) := Lib.hid HQ.out.1.1.2.2.1.size
            have HIL := Lib.hid hil
            clear hfl hbb
            go_wp2_with (first
              | (go_at_call 65; refine (HF.out).mono ?_; rintro e w' ⟨⟨vf, rfl, hvf⟩, rfl⟩; obtain ⟨Af, cf, rfl, -⟩ := own_form hvf; have HVF := Lib.hid hvf; clear hvf)
              | (at_builtin; refine wpList_append_ints rfl _ _ rfl w.heap.size w.heap.size (.slice (some ⟨wq.heap.size, 0, none⟩) 1 1) 1 (nums .i64 [(i : Int)]) rfl HNW.out _ _ _ rfl HVF.out (nums_one _ _) (by omega) (by have := HSZ.out; simp; omega) ?_; intro v5 w5 hown5 hgrow5; obtain ⟨A5, c5, rfl, -⟩ := own_form hown5; have H5 := Lib.hid (HQ.out.1.1.put HIL.out HFL.out hown5 hgrow5); have f5 := H5.out.1.free i; have x5 := H5.out.1.cell (j := i) (by rw [HQ.out.1.1.2.2.2.1]; exact HIL.out); clear hown5 hgrow5))
            refine ⟨?rel, ?measure⟩
            case rel => exact ⟨i, _, by have := HIL.out; omega, by go_num, Lib.hid ⟨H5.out.2, by rw [List.map_set, HFL.out]; exact HST.out⟩⟩
            case measure => simp [intOf]
      | zero =>
        have hii : (((0 : Nat) : Int) - 1) = -1 := rfl
        rw [hii]
        have HF := Lib.hid (first_any (some ⟨Bb, 0, none⟩) l0.length w.heap.size ps wo HI.out.1.1 HI.out.1.2.1)
        have hpl : ps.length = l0.length := HI.out.1.2.2.2.1
        rw [hpl] at HF
        obtain ⟨xs, hxs⟩ : ∃ xs, xs = firstL (ps.map Prod.snd) := ⟨_, rfl⟩
        rw [← hxs] at HF
        have HXS : Hid (xs = firstL res) := Lib.hid (by rw [hxs]; have := HI.out.2; rw [bestN] at this; rw [this])
        have hx30 : xs.length ≤ 30 := by
          rw [hxs]
          have := firstL_le (L := ps.map Prod.snd) (M := 30) (fun x hx => by
            obtain ⟨k, hk⟩ := List.mem_iff_getElem?.1 hx
            have hlt := (List.getElem?_eq_some_iff.1 hk).1
            rw [List.length_map, hpl] at hlt
            have h1 := HI.out.1.2.2.2.2.1 k hlt
            rw [List.getD_eq_getElem?_getD, hk] at h1
            have := HL.out
            simp at h1; omega)
          exact this
        have hle : w.heap.size ≤ wo.heap.size := HI.out.1.2.2.1.size
        have HBW := Lib.hid HI.out.1.2.2.1
        obtain ⟨i0, hi', hy0, hy1, hy2⟩ := info_parts infoInt
        have hsz1 : (Try.prog.info? 3).map (·.size) = some 1 := by rw [hi']; exact congrArg some hy1
        have HSZ1 := Lib.hid hsz1
        clear hsz1 hxs hpl hii
        go_upto_region 17 with (go_at_call 65; refine (HF.out).mono ?_; rintro e w' ⟨⟨vf, rfl, hvf⟩, rfl⟩)
        obtain ⟨ao, cap, rfl, hpc, hnn, hrd⟩ := own_out hvf
        have HRX := Lib.hid hrd
        clear hrd hnn hvf
        go_wp2_with (first
          | (at_make; refine wpList_make_full _ rfl _ _ 23 rfl w.heap.size 3 i0 (.int .i64 0) 1 Try.underlying23 hi' hy0 hy1 .i64 .i64 _ _ xs.length rfl rfl rfl rfl (by rw [hy2]; omega) (by unfold maxLen; omega) hle ?_; intro w6 hown6 hgrow6; obtain ⟨cur, hcur, hcl⟩ := own_block hown6; have HG6 := Lib.hid hgrow6; have HC6 := Lib.hid hcur; have HRD := Lib.hid (HRX.out.below (below_of_grown hgrow6)); have HB6 := Lib.hid (HBW.out.grown hgrow6 hle (fun j e => by cases e)); clear hown6 hgrow6 hcur)
          | ((with_reducible refine wpList_copy_splice (o := ⟨some 68, _, _, _, _, _⟩) ?_ (.tmp 66) (.tmp 67) 23 23 ?_ 3 Try.underlying23 HSZ1.out (some ⟨wo.heap.size, 0, none⟩) ao xs.length xs.length xs.length cap ?_ ?_ wo.heap.size 0 cur.toList 3 ?_ (nums .i64 xs) ?_ ?_ ?_ ?_ w.heap.size w HB6.out hle ?_); rfl; rfl; (repeat rfl); (exact HC6.out); (exact nums_min _ _); (exact fun hp => ⟨rfl, reads_some HRD.out (by simpa [nums] using hp)⟩); (simp [nums]; omega); (exact nums_one _ _); intro w7 hw7 hb7; have H7 := Lib.hid (And.intro hw7 hb7); clear hw7 hb7))
        go_ret2
        exact ⟨_, rfl, by rw [← HXS.out]; exact own_copied H7.out.1 (by rw [Array.length_toList, hcl, Nat.mul_one]) hle (by unfold maxLen; omega), H7.out.2⟩
  · rw [runV, if_pos ho] at hv
    obtain ⟨rfl, rfl⟩ : [] = r1 ∧ rowE l0 = r2 := by simpa using hv
    obtain ⟨E, hE⟩ : ∃ E, E = rowE l0 := ⟨_, rfl⟩
    rw [← hE] at HC ho ⊢
    have hb : (E != 0) = true := bne_iff_ne.2 ho
    clear hE hv hr0 ho
    go_enter Try.func43, Try.ntmps43
    go_wp2_with fail
    refine HC.out.mono ?_
    rintro e w1 ⟨rfl, hw⟩
    have HW := Lib.hid hw
    clear hw
    go_wp2_with fail
    go_ret2
    exact ⟨_, rfl, Kd.R_nil _ _ _ _ _, HW.out⟩
end Go.Proofs.Ytmfonbonfhngnaa.Hand

/- Whether any run fails a test: ContainsFunc over rows, with a closure that has the row in a box. (Printed by tools/ckr01.py.) -/
namespace Go.Proofs.Ytmfonbonfhngnaa.Hand
set_option linter.unusedVariables false
set_option linter.unusedSimpArgs false
open Go.RowKit Go.Maps Go.Proofs.YtmfonbonfhngnaaW.PrintWords Go.Proofs.YtmfonbonfhngnaaW.PrintLast Go.Proofs.YtmfonbonfhngnaaW.PrintMore Go.Proofs.Ytmfonbonfhngnaa.PrA

theorem rows_at {w : World} {A : Option Addr} {n : Nat} {xs : List (List Int)} (h : Kd.C (Kd.slice 3 (Kd.int .i64)) w A n xs) {j : Nat} (hj : j < xs.length) :
    ∃ ad A1 c1, A = some ad ∧ w.cell? (ad.add j) = some (.slice A1 xs[j].length c1) ∧ xs[j].length ≤ c1 ∧ Kd.C (Kd.int .i64) w A1 xs[j].length xs[j] := by
  obtain ⟨h1, h2, h3⟩ := h
  obtain ⟨ad, e, hc⟩ := h3 (by omega)
  obtain ⟨cs, hcs, ⟨A1, c1, rfl, hl, hr⟩, hcell⟩ := hc j xs[j] (List.getElem?_eq_getElem hj)
  refine ⟨ad, A1, c1, e, ?_, hl, hr⟩
  have := hcell 0 _ rfl
  rw [show j * (Kd.slice 3 (Kd.int .i64)).sz + 0 = j by show j * 1 + 0 = j; omega] at this
  exact this
/-- the first hit of a test that may fail -/
def anyO (p : List Int → Option Bool) : List (List Int) → Option Bool
  | [] => some false
  | x :: r => (p x).bind fun b => if b then anyO p r else some true

theorem notlisted_any (k B : Nat) (A0 : Option Addr) (c0 : Nat) (l0 : List Int) (A1 : Option Addr) (c1 : Nat) (x : List Int) (b : Bool) (w : World) (hb : w.cell? ⟨B, 0, none⟩ = some (.slice A0 l0.length c0)) (hr0 : Kd.C (Kd.int .i64) w A0 l0.length l0) (hc0 : l0.length ≤ c0) (hr1 : Kd.C (Kd.int .i64) w A1 x.length x) (hc1 : x.length ≤ c1) (h : gap_listed.f k l0 x = some b) :
    Calls Try.prog 57 #[.slice A1 x.length c1, .pointer (some ⟨B, 0, none⟩)] w fun e w' => e = .returned (.bool (!b)) ∧ Below w.heap.size w w' := by
  have HC := Lib.hid (gap_listed.calls k A0 c0 l0 A1 c1 x b w hr0 hc0 hr1 hc1 h)
  clear hr0 hc0 hr1 hc1 h
  go_enter Try.func57, Try.ntmps57
  go_wp2_with (go_at_call 58; refine (HC.out).mono ?_; rintro e w' ⟨rfl, hw⟩; have HW := Lib.hid hw; clear hw)
  go_ret
  exact ⟨rfl, HW.out⟩
set_option maxHeartbeats 1000000 in
theorem indexlisted_any (k B : Nat) (A0 : Option Addr) (c0 : Nat) (l0 : List Int) (A : Option Addr) (c : Nat) (xs : List (List Int)) (b : Bool) (w : World) (hb : w.cell? ⟨B, 0, none⟩ = some (.slice A0 l0.length c0)) (hr0 : Kd.C (Kd.int .i64) w A0 l0.length l0) (hc0 : l0.length ≤ c0) (hr : Kd.C (Kd.slice 3 (Kd.int .i64)) w A xs.length xs) (hc : xs.length ≤ c) (h : anyO (gap_listed.f k l0) xs = some b) :
    Calls Try.prog 74 #[.slice A xs.length c, .func (.func 57) #[] #[.pointer (some ⟨B, 0, none⟩)]] w fun e w' => (∃ r : Int, e = .returned (.int .i64 r) ∧ decide (0 ≤ r) = b) ∧ Below w.heap.size w w' := by
  have hm : xs.length ≤ 9223372036854775807 := hr.2.1
  have HR := Lib.hid (And.intro hr (And.intro hr0 (And.intro hc0 (And.intro hb h))))
  clear hr hr0 hb h
  go_enter Try.func74, Try.ntmps74
  go_wp2
  go_loopw [8] (fun i wr => ∃ j : Nat, j ≤ xs.length ∧ i = .int .i64 j ∧ Hid (Below w.heap.size w wr ∧ anyO (gap_listed.f k l0) (xs.drop j) = some b)) (fun i _ => xs.length - (intOf i).toNat)
  case atStart => exact ⟨0, Nat.zero_le _, rfl, Lib.hid ⟨Below.refl _ _, HR.out.2.2.2.2⟩⟩
  case round =>
    obtain ⟨j, hj, rfl, HA⟩ := hrel
    obtain ⟨wo, rfl⟩ : ∃ wo : World, wo = wr := ⟨_, rfl⟩
    by_cases hlt : j < xs.length
    · have j0 : (0 : Int) ≤ (j : Int) := by omega
      have hlti : (j : Int) < (xs.length : Int) := by omega
      obtain ⟨ad, A1, c1, rfl, hx, hc1, hr1⟩ := rows_at (Kd.C_below HR.out.1 HA.out.1) hlt
      have hst := HA.out.2
      rw [List.drop_eq_getElem_cons hlt, anyO] at hst
      obtain ⟨x, hx'⟩ : ∃ x, x = xs[j] := ⟨_, rfl⟩
      rw [← hx'] at hx hc1 hr1 hst
      obtain ⟨t, ht, hst⟩ := Option.bind_eq_some_iff.1 hst
      have HN := notlisted_any k B A0 c0 l0 A1 c1 x t wo ((HA.out.1.cell (cell_size HR.out.2.2.2.1)).trans HR.out.2.2.2.1) (Kd.C_below HR.out.2.1 HA.out.1) HR.out.2.2.1 hr1 hc1 ht
      clear hx' hr1 hc1 ht
      cases t
      · have HE : Hid (b = true) := Lib.hid (by simpa using hst.symm)
        have HN := Lib.hid HN
        clear hst
        go_wp2_with (go_at_call 57; refine (HN.out).mono ?_; rintro e w' ⟨rfl, hw⟩; have HW := Lib.hid hw; clear hw)
        go_ret
        exact ⟨⟨j, rfl, by rw [HE.out]; simp⟩, HA.out.1.trans (HW.out.mono HA.out.1.size)⟩
      · have HE : Hid (anyO (gap_listed.f k l0) (xs.drop (j + 1)) = some b) := Lib.hid (by simpa using hst)
        have HN := Lib.hid HN
        clear hst
        go_wp2_with (go_at_call 57; refine (HN.out).mono ?_; rintro e w' ⟨rfl, hw⟩; have HW := Lib.hid hw; clear hw)
        refine ⟨?rel, ?measure⟩
        case rel => exact ⟨j + 1, by omega, by go_num, Lib.hid ⟨HA.out.1.trans (HW.out.mono HA.out.1.size), HE.out⟩⟩
        case measure => simp [intOf]; omega
    · have hnl : ¬ (j : Int) < (xs.length : Int) := by omega
      have HE : Hid (b = false) := Lib.hid (by
        have h := HA.out.2
        rw [List.drop_eq_nil_of_le (by omega), anyO] at h
        simpa using h.symm)
      go_wp2
      go_ret
      exact ⟨⟨-1, rfl, by rw [HE.out]; rfl⟩, HA.out.1⟩
theorem containslisted_any (k B : Nat) (A0 : Option Addr) (c0 : Nat) (l0 : List Int) (A : Option Addr) (c : Nat) (xs : List (List Int)) (b : Bool) (w : World) (hb : w.cell? ⟨B, 0, none⟩ = some (.slice A0 l0.length c0)) (hr0 : Kd.C (Kd.int .i64) w A0 l0.length l0) (hc0 : l0.length ≤ c0) (hr : Kd.C (Kd.slice 3 (Kd.int .i64)) w A xs.length xs) (hc : xs.length ≤ c) (h : anyO (gap_listed.f k l0) xs = some b) :
    Calls Try.prog 56 #[.slice A xs.length c, .func (.func 57) #[] #[.pointer (some ⟨B, 0, none⟩)]] w fun e w' => e = .returned (.bool b) ∧ Below w.heap.size w w' := by
  have HI := Lib.hid (indexlisted_any k B A0 c0 l0 A c xs b w hb hr0 hc0 hr hc h)
  clear hr hr0 hb h
  go_enter Try.func56, Try.ntmps56
  go_wp2_with (go_at_call 74; refine (HI.out).mono ?_; rintro e w' ⟨⟨r, rfl, hd⟩, hw⟩; have HD := Lib.hid (And.intro hd hw); clear hd hw)
  go_ret
  exact ⟨congrArg (fun b => Ending.returned (Value.bool b)) HD.out.1, HD.out.2⟩

theorem notfalls_any (k B : Nat) (A0 : Option Addr) (c0 : Nat) (l0 : List Int) (A1 : Option Addr) (c1 : Nat) (x : List Int) (b : Bool) (w : World) (hb : w.cell? ⟨B, 0, none⟩ = some (.slice A0 l0.length c0)) (hr0 : Kd.C (Kd.int .i64) w A0 l0.length l0) (hc0 : l0.length ≤ c0) (hr1 : Kd.C (Kd.int .i64) w A1 x.length x) (hc1 : x.length ≤ c1) (h : gap_falls.f k l0 x = some b) :
    Calls Try.prog 59 #[.slice A1 x.length c1, .pointer (some ⟨B, 0, none⟩)] w fun e w' => e = .returned (.bool (!b)) ∧ Below w.heap.size w w' := by
  have HC := Lib.hid (gap_falls.calls k A0 c0 l0 A1 c1 x b w hr0 hc0 hr1 hc1 h)
  clear hr0 hc0 hr1 hc1 h
  go_enter Try.func59, Try.ntmps59
  go_wp2_with (go_at_call 60; refine (HC.out).mono ?_; rintro e w' ⟨rfl, hw⟩; have HW := Lib.hid hw; clear hw)
  go_ret
  exact ⟨rfl, HW.out.below⟩
set_option maxHeartbeats 1000000 in
theorem indexfalls_any (k B : Nat) (A0 : Option Addr) (c0 : Nat) (l0 : List Int) (A : Option Addr) (c : Nat) (xs : List (List Int)) (b : Bool) (w : World) (hb : w.cell? ⟨B, 0, none⟩ = some (.slice A0 l0.length c0)) (hr0 : Kd.C (Kd.int .i64) w A0 l0.length l0) (hc0 : l0.length ≤ c0) (hr : Kd.C (Kd.slice 3 (Kd.int .i64)) w A xs.length xs) (hc : xs.length ≤ c) (h : anyO (gap_falls.f k l0) xs = some b) :
    Calls Try.prog 74 #[.slice A xs.length c, .func (.func 59) #[] #[.pointer (some ⟨B, 0, none⟩)]] w fun e w' => (∃ r : Int, e = .returned (.int .i64 r) ∧ decide (0 ≤ r) = b) ∧ Below w.heap.size w w' := by
  have hm : xs.length ≤ 9223372036854775807 := hr.2.1
  have HR := Lib.hid (And.intro hr (And.intro hr0 (And.intro hc0 (And.intro hb h))))
  clear hr hr0 hb h
  go_enter Try.func74, Try.ntmps74
  go_wp2
  go_loopw [8] (fun i wr => ∃ j : Nat, j ≤ xs.length ∧ i = .int .i64 j ∧ Hid (Below w.heap.size w wr ∧ anyO (gap_falls.f k l0) (xs.drop j) = some b)) (fun i _ => xs.length - (intOf i).toNat)
  case atStart => exact ⟨0, Nat.zero_le _, rfl, Lib.hid ⟨Below.refl _ _, HR.out.2.2.2.2⟩⟩
  case round =>
    obtain ⟨j, hj, rfl, HA⟩ := hrel
    obtain ⟨wo, rfl⟩ : ∃ wo : World, wo = wr := ⟨_, rfl⟩
    by_cases hlt : j < xs.length
    · have j0 : (0 : Int) ≤ (j : Int) := by omega
      have hlti : (j : Int) < (xs.length : Int) := by omega
      obtain ⟨ad, A1, c1, rfl, hx, hc1, hr1⟩ := rows_at (Kd.C_below HR.out.1 HA.out.1) hlt
      have hst := HA.out.2
      rw [List.drop_eq_getElem_cons hlt, anyO] at hst
      obtain ⟨x, hx'⟩ : ∃ x, x = xs[j] := ⟨_, rfl⟩
      rw [← hx'] at hx hc1 hr1 hst
      obtain ⟨t, ht, hst⟩ := Option.bind_eq_some_iff.1 hst
      have HN := notfalls_any k B A0 c0 l0 A1 c1 x t wo ((HA.out.1.cell (cell_size HR.out.2.2.2.1)).trans HR.out.2.2.2.1) (Kd.C_below HR.out.2.1 HA.out.1) HR.out.2.2.1 hr1 hc1 ht
      clear hx' hr1 hc1 ht
      cases t
      · have HE : Hid (b = true) := Lib.hid (by simpa using hst.symm)
        have HN := Lib.hid HN
        clear hst
        go_wp2_with (go_at_call 59; refine (HN.out).mono ?_; rintro e w' ⟨rfl, hw⟩; have HW := Lib.hid hw; clear hw)
        go_ret
        exact ⟨⟨j, rfl, by rw [HE.out]; simp⟩, HA.out.1.trans (HW.out.mono HA.out.1.size)⟩
      · have HE : Hid (anyO (gap_falls.f k l0) (xs.drop (j + 1)) = some b) := Lib.hid (by simpa using hst)
        have HN := Lib.hid HN
        clear hst
        go_wp2_with (go_at_call 59; refine (HN.out).mono ?_; rintro e w' ⟨rfl, hw⟩; have HW := Lib.hid hw; clear hw)
        refine ⟨?rel, ?measure⟩
        case rel => exact ⟨j + 1, by omega, by go_num, Lib.hid ⟨HA.out.1.trans (HW.out.mono HA.out.1.size), HE.out⟩⟩
        case measure => simp [intOf]; omega
    · have hnl : ¬ (j : Int) < (xs.length : Int) := by omega
      have HE : Hid (b = false) := Lib.hid (by
        have h := HA.out.2
        rw [List.drop_eq_nil_of_le (by omega), anyO] at h
        simpa using h.symm)
      go_wp2
      go_ret
      exact ⟨⟨-1, rfl, by rw [HE.out]; rfl⟩, HA.out.1⟩
theorem containsfalls_any (k B : Nat) (A0 : Option Addr) (c0 : Nat) (l0 : List Int) (A : Option Addr) (c : Nat) (xs : List (List Int)) (b : Bool) (w : World) (hb : w.cell? ⟨B, 0, none⟩ = some (.slice A0 l0.length c0)) (hr0 : Kd.C (Kd.int .i64) w A0 l0.length l0) (hc0 : l0.length ≤ c0) (hr : Kd.C (Kd.slice 3 (Kd.int .i64)) w A xs.length xs) (hc : xs.length ≤ c) (h : anyO (gap_falls.f k l0) xs = some b) :
    Calls Try.prog 56 #[.slice A xs.length c, .func (.func 59) #[] #[.pointer (some ⟨B, 0, none⟩)]] w fun e w' => e = .returned (.bool b) ∧ Below w.heap.size w w' := by
  have HI := Lib.hid (indexfalls_any k B A0 c0 l0 A c xs b w hb hr0 hc0 hr hc h)
  clear hr hr0 hb h
  go_enter Try.func56, Try.ntmps56
  go_wp2_with (go_at_call 74; refine (HI.out).mono ?_; rintro e w' ⟨⟨r, rfl, hd⟩, hw⟩; have HD := Lib.hid (And.intro hd hw); clear hd hw)
  go_ret
  exact ⟨congrArg (fun b => Ending.returned (Value.bool b)) HD.out.1, HD.out.2⟩
end Go.Proofs.Ytmfonbonfhngnaa.Hand

/- Whether any count is not one; counts of the logs of runs. -/
namespace Go.Proofs.Ytmfonbonfhngnaa.Hand
set_option linter.unusedVariables false
set_option linter.unusedSimpArgs false
open Go.RowKit Go.Maps Go.Proofs.YtmfonbonfhngnaaW.PrintWords Go.Proofs.YtmfonbonfhngnaaW.PrintLast Go.Proofs.YtmfonbonfhngnaaW.PrintMore Go.Proofs.Ytmfonbonfhngnaa.PrA

def no1 (x : Int) : Bool := x != 1
theorem no1_any (x : Int) (w : World) : Calls Try.prog 61 #[.int .i64 x] w fun e w' => e = .returned (.bool (no1 x)) ∧ w = w' := by
  unfold no1
  go_enter Try.func61, Try.ntmps61
  go_wp2
  go_ret
  exact ⟨rfl, rfl⟩
set_option maxHeartbeats 1000000 in
theorem indexn_any (A : Option Addr) (c : Nat) (l : List Int) (w : World) (hr : Kd.C (Kd.int .i64) w A l.length l) (hc : l.length ≤ c) :
    Calls Try.prog 67 #[.slice A l.length c, .func (.func 61) #[] #[]] w
      fun e w' => (∃ r : Int, e = .returned (.int .i64 r) ∧ decide (0 ≤ r) = l.any no1) ∧ w = w' := by
  have hm : l.length ≤ 9223372036854775807 := hr.2.1
  have HR := Lib.hid hr
  clear hr
  go_enter Try.func67, Try.ntmps67
  go_wp2
  go_loop [8] (fun i => ∃ k : Nat, k ≤ l.length ∧ i = .int .i64 k ∧ Hid ((l.take k).any no1 = false)) (fun i => l.length - (intOf i).toNat)
  case atStart => exact ⟨0, Nat.zero_le _, rfl, Lib.hid (by simp)⟩
  case round =>
    obtain ⟨k, hk, rfl, HA⟩ := hrel
    by_cases hlt : k < l.length
    · obtain ⟨ad, e1, hx⟩ := Kd.at_int HR.out (k : Int) (by omega) (by omega)
      cases e1
      have hs := any_take_succ no1 l k hlt
      have hh := any_hit no1 l k hlt
      have hl : rd l (k : Int) = l[k] := by simp [rd, hlt]
      rw [hl, Int.toNat_natCast] at hx
      obtain ⟨x, hx'⟩ : ∃ x, x = l[k] := ⟨_, rfl⟩
      rw [← hx'] at hx hs hh
      have HS := Lib.hid hs
      have HH := Lib.hid hh
      have HN := no1_any x w
      clear hs hl hh hx'
      cases hb : no1 x
      · have HB := Lib.hid hb
        rw [hb] at HN
        have HN := Lib.hid HN
        clear hb
        go_wp2_with (go_at_call 61; refine (HN.out).mono ?_; rintro e w' ⟨rfl, rfl⟩)
        go_round
        case rel => exact ⟨k + 1, by omega, by go_num, Lib.hid (by rw [HS.out, HA.out, HB.out]; rfl)⟩
        case measure => simp [intOf]; omega
      · have HB := Lib.hid hb
        rw [hb] at HN
        have HN := Lib.hid HN
        clear hb
        go_wp2_with (go_at_call 61; refine (HN.out).mono ?_; rintro e w' ⟨rfl, rfl⟩)
        go_ret
        exact ⟨⟨k, rfl, by rw [HH.out HB.out]; simp⟩, rfl⟩
    · go_wp2
      go_ret
      refine ⟨⟨-1, rfl, ?_⟩, rfl⟩
      have := HA.out
      rw [List.take_of_length_le (by omega)] at this
      rw [this]; simp
theorem containsn_any (A : Option Addr) (c : Nat) (l : List Int) (w : World) (hr : Kd.C (Kd.int .i64) w A l.length l) (hc : l.length ≤ c) :
    Calls Try.prog 49 #[.slice A l.length c, .func (.func 61) #[] #[]] w fun e w' => e = .returned (.bool (l.any no1)) ∧ w = w' := by
  have HI := Lib.hid (indexn_any A c l w hr hc)
  clear hr
  go_enter Try.func49, Try.ntmps49
  go_wp2_with (go_at_call 67; refine (HI.out).mono ?_; rintro e w' ⟨⟨r, rfl, hd⟩, rfl⟩; have HD := Lib.hid hd; clear hd)
  go_ret
  exact ⟨congrArg (fun b => Ending.returned (Value.bool b)) HD.out, rfl⟩

/-- one run's logs, counted -/
def cntL : List Int → List Int → Option (List Int)
  | [], cn => some cn
  | i :: r, cn => if 0 ≤ i ∧ i < 30 ∧ 0 ≤ rd cn i ∧ rd cn i < 1000000 then cntL r (cn.set i.toNat (rd cn i + 1)) else none
/-- all runs' logs, and the bound -/
def cntR (m : Int) : List (List Int) → List Int → Int → Option (List Int × Int)
  | [], cn, b => some (cn, b)
  | x :: r, cn, b => (cntL x cn).bind fun cn' => if b < 100000 then cntR m r cn' (b + min m x.length) else none
def gap_CheckRuns.f (k : Nat) (l0 : List Int) (a1 : Int) (l2 : List (List Int)) : Option (Int × Int) :=
  if openE l0 a1 ≠ 0 then some (0, openE l0 a1) else if 30 < l2.length then some (0, 6) else
  (anyO (gap_listed.f k l0) l2).bind fun b1 => if b1 then some (0, 3) else
  (anyO (gap_falls.f k l0) l2).bind fun b2 => if b2 then some (0, 16) else
  (cntR a1 l2 (List.replicate 30 0) 0).bind fun r => if (r.1.take l0.length).any no1 then some (0, 14) else some (r.2, 0)
theorem cntL_len : ∀ (x cn : List Int) {r : List Int}, cntL x cn = some r → r.length = cn.length
  | [], cn, r, h => by cases h; rfl
  | i :: x, cn, r, h => by
    rw [cntL] at h
    split at h
    · rw [cntL_len x _ h, List.length_set]
    · cases h
end Go.Proofs.Ytmfonbonfhngnaa.Hand

/- The walk of CheckRuns. -/
namespace Go.Proofs.Ytmfonbonfhngnaa.Hand
set_option linter.unusedVariables false
set_option linter.unusedSimpArgs false
open Go.RowKit Go.Maps Go.Proofs.YtmfonbonfhngnaaW.PrintWords Go.Proofs.YtmfonbonfhngnaaW.PrintLast Go.Proofs.YtmfonbonfhngnaaW.PrintMore Go.Proofs.Ytmfonbonfhngnaa.PrA

/-- the counts in memory -/
def ArrAt (W : World) (B : Nat) (cn : List Int) : Prop := W.heap[B]? = some (.cells (nums .i64 cn).toArray 68 (0, 0))
theorem ArrAt.set {W : World} {B : Nat} {cn : List Int} (h : ArrAt W B cn) (i : Nat) (v : Int) : ArrAt (W.setCell ⟨B, i, none⟩ (.int .i64 v)) B (cn.set i v) := by
  have := heap_setCell_same W B i _ _ (.int .i64 v) h
  rw [nums_set] at this
  exact this
theorem ArrAt.cell {W : World} {B : Nat} {cn : List Int} (h : ArrAt W B cn) {i : Nat} (hi : i < cn.length) : W.cell? ⟨B, i, none⟩ = some (.int .i64 (rd cn i)) := by
  rw [cell_of_row W _ _ _ _ _ h]
  simp [nums, rd, hi]
theorem ArrAt.free {W : World} {B : Nat} {cn : List Int} (h : ArrAt W B cn) (i : Nat) : W.frozen? ⟨B, i, none⟩ = false := frozen_of_row W _ i _ _ h
theorem ArrAt.reads {W : World} {B : Nat} {cn : List Int} (h : ArrAt W B cn) (n : Nat) (hn : n ≤ cn.length) (h30 : cn.length = 30) : Kd.C (Kd.int .i64) W (some ⟨B, 0, none⟩) (cn.take n).length (cn.take n) :=
  Kd.C_of_reads (d := (0 : Int)) (h1 := fun _ => rfl) ⟨rfl, by simp; omega, fun _ => ⟨_, rfl, fun j hj => by
    have hj' : j < n := by rw [List.length_take] at hj; omega
    rw [add_plain, h.cell (by omega)]
    simp [rd, List.getD_eq_getElem?_getD, hj', List.getElem?_take]⟩⟩

set_option maxHeartbeats 4000000 in
set_option maxRecDepth 100000 in
theorem gap_CheckRuns.calls (k : Nat) (A0 : Option Addr) (c0 : Nat) (l0 : List Int) (a1 : Int) (A2 : Option Addr) (c2 : Nat) (l2 : List (List Int)) (r1 r2 : Int) (w : World) (hr0 : Kd.C (Kd.int .i64) w A0 l0.length l0) (hc0 : l0.length ≤ c0) (hr2 : Kd.C (Kd.slice 3 (Kd.int .i64)) w A2 l2.length l2) (hc2 : l2.length ≤ c2) (h : gap_CheckRuns.f k l0 a1 l2 = some (r1, r2)) :
    Calls Try.prog 34 #[.slice A0 l0.length c0, .int .i64 a1, .slice A2 l2.length c2] w fun e w' => e = .returned (.tuple #[.int .i64 r1, .int .i64 r2]) ∧ Below w.heap.size w w' := by
  obtain ⟨W1, hW1⟩ : ∃ W1, W1 = w.alloc (.cells #[.slice A0 l0.length c0] 22) := ⟨_, rfl⟩
  obtain ⟨B, hB⟩ : ∃ B, B = w.heap.size := ⟨_, rfl⟩
  have hb1 : Below w.heap.size w W1 := by rw [hW1]; exact (Below.refl _ _).alloc (Nat.le_refl _) _
  have hbox : W1.cell? ⟨B, 0, none⟩ = some (.slice A0 l0.length c0) := by rw [hW1, hB]; simp
  have hr01 := Kd.C_below hr0 hb1
  have hr21 := Kd.C_below hr2 hb1
  have HB1 := Lib.hid hb1
  by_cases ho : openE l0 a1 = 0
  · rw [gap_CheckRuns.f, if_neg (by omega)] at h
    have HO := Lib.hid (open_good A0 c0 l0 a1 W1 hr01 hc0 ho)
    have ho30 := openE_zero ho
    have HH := Lib.hid (And.intro hr01 (And.intro hr21 (And.intro hbox h)))
    have l30 : (l0.length : Int) ≤ 30 := by omega
    have HL := Lib.hid ho30
    have m2 : l2.length ≤ 9223372036854775807 := hr2.2.1
    clear hr0 hr2 hr01 hr21 hb1 h ho ho30
    go_enter Try.func34, Try.ntmps34
    go_wp2_with fail
    rw [← hW1, ← hB]
    clear hW1 hB
    go_wp2_with fail
    refine HO.out.mono ?_
    rintro e w2 ⟨h0, hh, rfl, hn, hb⟩
    have HX : Hid (Kd.C (Kd.int .i64) w2 A0 l0.length l0 ∧ Kd.C (Kd.slice 3 (Kd.int .i64)) w2 A2 l2.length l2 ∧ Below w.heap.size w w2) := Lib.hid ⟨Kd.C_below HH.out.1 hb, Kd.C_below HH.out.2.1 hb, HB1.out.trans (hb.mono HB1.out.size)⟩
    have hbox2 : w2.cell? ⟨B, 0, none⟩ = some (.slice A0 l0.length c0) := (hb.cell (cell_size HH.out.2.2.1)).trans HH.out.2.2.1
    clear hn hb hh hbox
    by_cases h30 : 30 < l2.length
    · have h30i : (30 : Int) < (l2.length : Int) := by omega
      have HRR : Hid (0 = r1 ∧ 6 = r2) := Lib.hid (by have h := HH.out.2.2.2; rw [if_pos h30] at h; simpa using h)
      clear h30
      go_wp2_with fail
      go_ret2
      exact ⟨by rw [← HRR.out.1, ← HRR.out.2]; rfl, HX.out.2.2⟩
    · have h30i : ¬ (30 : Int) < (l2.length : Int) := by omega
      have hst := HH.out.2.2.2
      rw [if_neg h30] at hst
      obtain ⟨b1, hb1, hst⟩ := Option.bind_eq_some_iff.1 hst
      have HC1 := Lib.hid (containslisted_any k B A0 c0 l0 A2 c2 l2 b1 w2 hbox2 HX.out.1 hc0 HX.out.2.1 hc2 hb1)
      clear h30 hb1
      cases b1
      · have HST : Hid ((anyO (gap_falls.f k l0) l2).bind (fun b2 => if b2 then some (0, 16) else (cntR a1 l2 (List.replicate 30 0) 0).bind fun r => if (r.1.take l0.length).any no1 then some (0, 14) else some (r.2, 0)) = some (r1, r2)) := Lib.hid (by simpa using hst)
        clear hst
        go_wp2_with fail
        refine HC1.out.mono ?_
        rintro e w3 ⟨rfl, hb3⟩
        have HX3 : Hid (Kd.C (Kd.int .i64) w3 A0 l0.length l0 ∧ Kd.C (Kd.slice 3 (Kd.int .i64)) w3 A2 l2.length l2 ∧ Below w.heap.size w w3) := Lib.hid ⟨Kd.C_below HX.out.1 hb3, Kd.C_below HX.out.2.1 hb3, HX.out.2.2.trans (hb3.mono HX.out.2.2.size)⟩
        have hbox3 : w3.cell? ⟨B, 0, none⟩ = some (.slice A0 l0.length c0) := (hb3.cell (cell_size hbox2)).trans hbox2
        obtain ⟨b2, hb2, hst⟩ := Option.bind_eq_some_iff.1 HST.out
        have HC2 := Lib.hid (containsfalls_any k B A0 c0 l0 A2 c2 l2 b2 w3 hbox3 HX3.out.1 hc0 HX3.out.2.1 hc2 hb2)
        clear hb3 hbox2 hb2
        cases b2
        · have HST2 : Hid ((cntR a1 l2 (List.replicate 30 0) 0).bind (fun r => if (r.1.take l0.length).any no1 then some (0, 14) else some (r.2, 0)) = some (r1, r2)) := Lib.hid (by simpa using hst)
          clear hst
          go_wp2_with fail
          refine HC2.out.mono ?_
          rintro e w4 ⟨rfl, hb4⟩
          have HX4 : Hid (Kd.C (Kd.int .i64) w4 A0 l0.length l0 ∧ Kd.C (Kd.slice 3 (Kd.int .i64)) w4 A2 l2.length l2 ∧ Below w.heap.size w w4) := Lib.hid ⟨Kd.C_below HX3.out.1 hb4, Kd.C_below HX3.out.2.1 hb4, HX3.out.2.2.trans (hb4.mono HX3.out.2.2.size)⟩
          have hbox4 : w4.cell? ⟨B, 0, none⟩ = some (.slice A0 l0.length c0) := (hb4.cell (cell_size hbox3)).trans hbox3
          clear hb4 hbox3
          obtain ⟨res, hres, hfin⟩ := Option.bind_eq_some_iff.1 HST2.out
          have HFIN := Lib.hid hfin
          obtain ⟨W5, hW5⟩ : ∃ W5, W5 = w4.alloc (.cells #[.int .i64 0, .int .i64 0, .int .i64 0, .int .i64 0, .int .i64 0, .int .i64 0, .int .i64 0, .int .i64 0, .int .i64 0, .int .i64 0, .int .i64 0, .int .i64 0, .int .i64 0, .int .i64 0, .int .i64 0, .int .i64 0, .int .i64 0, .int .i64 0, .int .i64 0, .int .i64 0, .int .i64 0, .int .i64 0, .int .i64 0, .int .i64 0, .int .i64 0, .int .i64 0, .int .i64 0, .int .i64 0, .int .i64 0, .int .i64 0] 68) := ⟨_, rfl⟩
          have HA0 : Hid (ArrAt W5 w4.heap.size (List.replicate 30 0)) := Lib.hid (by rw [hW5]; exact heap_alloc_last _ _)
          have HB5 : Hid (Below w4.heap.size w4 W5) := Lib.hid (by rw [hW5]; exact (Below.refl _ _).alloc (Nat.le_refl _) _)
          have HRES := Lib.hid hres
          have HBX := Lib.hid hbox4
          clear hres hfin hbox4
          go_wp2_with fail
          rw [← hW5]
          obtain ⟨Bi, hBi⟩ : ∃ Bi, Bi = w4.heap.size := ⟨_, rfl⟩
          rw [← hBi] at HA0 HB5 ⊢
          have HBI := Lib.hid hBi
          clear hW5 hBi
          go_loopw [11, 40] (fun v11 v40 wr => ∃ (j : Nat) (b : Int) (cn : List Int), j ≤ l2.length ∧ v11 = .int .i64 b ∧ v40 = .int .i64 j ∧ 0 ≤ b ∧ b ≤ 100030 ∧ Hid (ArrAt wr Bi cn ∧ cn.length = 30 ∧ Below Bi w4 wr ∧ cntR a1 (l2.drop j) cn b = some res)) (fun _ i _ => l2.length - (intOf i).toNat)
          case atStart => exact ⟨0, 0, _, Nat.zero_le _, rfl, rfl, Int.le_refl _, by omega, Lib.hid ⟨HA0.out, rfl, HB5.out, HRES.out⟩⟩
          case round =>
            obtain ⟨j, b, cn, hj, rfl, rfl, hb0, hb1, HI⟩ := hrel
            obtain ⟨wo, rfl⟩ : ∃ wo : World, wo = wr := ⟨_, rfl⟩
            have j0 : (0 : Int) ≤ (j : Int) := by omega
            by_cases hlt : j < l2.length
            · have hlti : (j : Int) < (l2.length : Int) := by omega
              have hbw : Below w4.heap.size w4 wo := by have := HI.out.2.2.1; rw [HBI.out] at this; exact this
              obtain ⟨ad, A1, c1, rfl, hx, hc1, hr1⟩ := rows_at (Kd.C_below HX4.out.2.1 hbw) hlt
              have hst := HI.out.2.2.2
              rw [List.drop_eq_getElem_cons hlt, cntR] at hst
              obtain ⟨x, hx'⟩ : ∃ x, x = l2[j] := ⟨_, rfl⟩
              rw [← hx'] at hx hc1 hr1 hst
              obtain ⟨cn', hcn, hst⟩ := Option.bind_eq_some_iff.1 hst
              have hbl : b < 100000 := by
                by_cases g : b < 100000
                · exact g
                · rw [if_neg g] at hst; cases hst
              rw [if_pos hbl] at hst
              have HST3 := Lib.hid hst
              have HCN := Lib.hid hcn
              have HR1 : Hid (Kd.C (Kd.int .i64) w4 A1 x.length x) := Lib.hid (by
                obtain ⟨ad', A1', c1', e, hx2, _, hr2⟩ := rows_at HX4.out.2.1 hlt
                cases e
                have := (hbw.cell (cell_size hx2)).trans hx2
                rw [this, ← hx'] at hx
                cases hx
                rw [← hx'] at hr2
                exact hr2)
              have hxm : x.length ≤ 9223372036854775807 := hr1.2.1
              clear hst hcn hx' hr1 hbw
              go_wp2_with fail
              go_loopw [15, 46] (fun _ v46 wq => ∃ (i : Nat) (cn1 : List Int), i ≤ x.length ∧ v46 = .int .i64 i ∧ Hid (ArrAt wq Bi cn1 ∧ cn1.length = 30 ∧ Below Bi w4 wq ∧ cntL (x.drop i) cn1 = some cn')) (fun _ i _ => x.length - (intOf i).toNat)
              case atStart => exact ⟨0, cn, Nat.zero_le _, rfl, Lib.hid ⟨HI.out.1, HI.out.2.1, HI.out.2.2.1, HCN.out⟩⟩
              case round =>
                obtain ⟨i, cn1, hi, rfl, HQ⟩ := hrel
                obtain ⟨wq, rfl⟩ : ∃ wq : World, wq = wr := ⟨_, rfl⟩
                have i0 : (0 : Int) ≤ (i : Int) := by omega
                by_cases hil : i < x.length
                · have hili : (i : Int) < (x.length : Int) := by omega
                  have hbw : Below w4.heap.size w4 wq := by have := HQ.out.2.2.1; rw [HBI.out] at this; exact this
                  obtain ⟨ad1, rfl, hy⟩ := Kd.at_int (Kd.C_below HR1.out hbw) (i : Int) i0 hili
                  rw [Int.toNat_natCast] at hy
                  have hst := HQ.out.2.2.2
                  rw [List.drop_eq_getElem_cons hil, cntL] at hst
                  have he : x[i] = rd x (i : Int) := by simp [rd, hil]
                  rw [he] at hst
                  obtain ⟨v, hv⟩ : ∃ v, v = rd x (i : Int) := ⟨_, rfl⟩
                  rw [← hv] at hst hy
                  have hg : 0 ≤ v ∧ v < 30 ∧ 0 ≤ rd cn1 v ∧ rd cn1 v < 1000000 := by
                    by_cases g : 0 ≤ v ∧ v < 30 ∧ 0 ≤ rd cn1 v ∧ rd cn1 v < 1000000
                    · exact g
                    · rw [if_neg g] at hst; cases hst
                  rw [if_pos hg] at hst
                  obtain ⟨vn, rfl⟩ : ∃ vn : Nat, v = (vn : Int) := ⟨v.toNat, by omega⟩
                  rw [Int.toNat_natCast] at hst
                  obtain ⟨g1, g2, g3, g4⟩ := hg
                  have cx := HQ.out.1.cell (i := vn) (by have := HQ.out.2.1; omega)
                  have fx := HQ.out.1.free vn
                  obtain ⟨y, hy'⟩ : ∃ y, y = rd cn1 (vn : Int) := ⟨_, rfl⟩
                  rw [← hy'] at cx g3 g4 hst
                  have HST4 := Lib.hid hst
                  have HS := Lib.hid (HQ.out.1.set vn (y + 1))
                  have HBS : Hid (Below Bi w4 (wq.setCell ⟨Bi, vn, none⟩ (.int .i64 (y + 1)))) := Lib.hid (HQ.out.2.2.1.setCell (p := ⟨Bi, vn, none⟩) (Nat.le_refl _) _)
                  clear hst he hv hy' hbw
                  go_wp2_with fail
                  refine ⟨?rel, ?measure⟩
                  case rel => exact ⟨i + 1, cn1.set vn (y + 1), by omega, by go_num, Lib.hid ⟨HS.out, by rw [List.length_set]; exact HQ.out.2.1, HBS.out, HST4.out⟩⟩
                  case measure => simp [intOf]; omega
                · have hnl : ¬ (i : Int) < (x.length : Int) := by omega
                  have HE : Hid (cn1 = cn') := Lib.hid (by
                    have h := HQ.out.2.2.2
                    rw [List.drop_eq_nil_of_le (by omega), cntL] at h
                    exact Option.some.inj h)
                  go_wp2_with fail
                  have hm := HL.out
                  have e1 : (if (x.length : Int) < a1 then (x.length : Int) else a1) = min a1 x.length := by split <;> omega
                  have e2 : wrap64 (b + min a1 (x.length : Int)) = b + min a1 (x.length : Int) := IntWalk.wrap64_in _ ⟨by omega, by omega⟩
                  refine ⟨⟨j + 1, b + min a1 x.length, cn1, by omega, by rw [e1, e2], by go_num, by omega, by omega, Lib.hid ⟨HQ.out.1, HQ.out.2.1, HQ.out.2.2.1, by rw [HE.out]; exact HST3.out⟩⟩, by simp [intOf]; omega⟩
            · have hnl : ¬ (j : Int) < (l2.length : Int) := by omega
              have HE : Hid ((cn, b) = res) := Lib.hid (by
                have h := HI.out.2.2.2
                rw [List.drop_eq_nil_of_le (by omega), cntR] at h
                exact Option.some.inj h)
              have hbw : Below w4.heap.size w4 wo := by have := HI.out.2.2.1; rw [HBI.out] at this; exact this
              have hbx : wo.cell? ⟨B, 0, none⟩ = some (.slice A0 l0.length c0) := (hbw.cell (cell_size HBX.out)).trans HBX.out
              have HN := containsn_any (some ⟨Bi, 0, none⟩) 30 (cn.take l0.length) wo (HI.out.1.reads l0.length (by have := HI.out.2.1; have := HL.out; omega) HI.out.2.1) (by have := HL.out; simp; omega)
              rw [List.length_take, Nat.min_eq_left (by have := HI.out.2.1; have := HL.out; omega)] at HN
              have hfin := HFIN.out
              rw [← HE.out] at hfin
              have HBF : Hid (Below w.heap.size w wo) := Lib.hid (HX4.out.2.2.trans (hbw.mono HX4.out.2.2.size))
              cases ha : (cn.take l0.length).any no1
              · rw [ha] at HN hfin
                have HN := Lib.hid HN
                have HRR : Hid (b = r1 ∧ 0 = r2) := Lib.hid (by simpa using hfin)
                clear ha hfin hbw
                go_wp2_with (go_at_call 49; refine (HN.out).mono ?_; rintro e w' ⟨rfl, rfl⟩)
                go_ret2
                exact ⟨by rw [← HRR.out.1, ← HRR.out.2]; rfl, HBF.out⟩
              · rw [ha] at HN hfin
                have HN := Lib.hid HN
                have HRR : Hid (0 = r1 ∧ 14 = r2) := Lib.hid (by simpa using hfin)
                clear ha hfin hbw
                go_wp2_with (go_at_call 49; refine (HN.out).mono ?_; rintro e w' ⟨rfl, rfl⟩)
                go_ret2
                exact ⟨by rw [← HRR.out.1, ← HRR.out.2]; rfl, HBF.out⟩
        · have HRR : Hid (0 = r1 ∧ 16 = r2) := Lib.hid (by simpa using hst)
          clear hst
          go_wp2_with fail
          refine HC2.out.mono ?_
          rintro e w4 ⟨rfl, hb4⟩
          have HB4 := Lib.hid hb4
          clear hb4
          go_wp2_with fail
          go_ret2
          exact ⟨by rw [← HRR.out.1, ← HRR.out.2]; rfl, HX3.out.2.2.trans (HB4.out.mono HX3.out.2.2.size)⟩
      · have HRR : Hid (0 = r1 ∧ 3 = r2) := Lib.hid (by simpa using hst)
        clear hst
        go_wp2_with fail
        refine HC1.out.mono ?_
        rintro e w3 ⟨rfl, hb3⟩
        have HB3 := Lib.hid hb3
        clear hb3
        go_wp2_with fail
        go_ret2
        exact ⟨by rw [← HRR.out.1, ← HRR.out.2]; rfl, HX.out.2.2.trans (HB3.out.mono HX.out.2.2.size)⟩
  · rw [gap_CheckRuns.f, if_pos ho] at h
    obtain ⟨rfl, rfl⟩ : 0 = r1 ∧ openE l0 a1 = r2 := by simpa using h
    have HO := Lib.hid (open_bad A0 c0 l0 a1 W1 hr01 hc0 ho)
    obtain ⟨E, hE⟩ : ∃ E, E = openE l0 a1 := ⟨_, rfl⟩
    rw [← hE] at HO ho ⊢
    have hb : (E != 0) = true := bne_iff_ne.2 ho
    clear hE h hr0 ho hr2 hr01 hr21 hb1
    go_enter Try.func34, Try.ntmps34
    go_wp2_with fail
    rw [← hW1, ← hB]
    clear hW1 hB
    go_wp2_with fail
    refine HO.out.mono ?_
    rintro e w2 ⟨rfl, hw⟩
    have HW := Lib.hid hw
    clear hw
    go_wp2_with fail
    go_ret2
    exact ⟨rfl, HB1.out.trans (HW.out.mono HB1.out.size)⟩
end Go.Proofs.Ytmfonbonfhngnaa.Hand

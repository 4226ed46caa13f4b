/- Choose, Samples and AtMost come to plain numbers. -/
import Derived.Test.YtmgdidhhgdpobaaHWithin
import Derived.Test.YtmgdidhhgdpobaaHSamples
import Derived.Test.YtmgdidhhgdpobaaPrA1
import Derived.Maps.OwnOps
namespace Go.Proofs.Ytmgdidhhgdpobaa.Hand
open Go.RowKit Go.Maps Go.Proofs.YtmgdidhhgdpobaaW.PrintWords Go.Proofs.YtmgdidhhgdpobaaW.PrintLast Go.Proofs.YtmgdidhhgdpobaaW.PrintMore Go.Proofs.Ytmgdidhhgdpobaa.PrA

theorem reads1 (w : World) (x : Int) : Kd.C (Kd.int .i64) (w.alloc (.cells #[.int .i64 x] 3)) (some ⟨w.heap.size, 0, none⟩) [x].length [x] :=
  Kd.C_of_reads (d := (0 : Int)) (h1 := fun _ => rfl) ⟨rfl, by simp, fun _ => ⟨_, rfl, fun j hj => by
    obtain rfl : j = 0 := by simpa using hj
    rw [add_plain]; simp⟩⟩
theorem reads2 (w : World) (x y : Int) : Kd.C (Kd.int .i64) (w.alloc (.cells #[.int .i64 x, .int .i64 y] 3)) (some ⟨w.heap.size, 0, none⟩) [x, y].length [x, y] :=
  Kd.C_of_reads (d := (0 : Int)) (h1 := fun _ => rfl) ⟨rfl, by simp, fun _ => ⟨_, rfl, fun j hj => by
    have : j = 0 ∨ j = 1 := by simp at hj; omega
    rw [add_plain]
    rcases this with rfl | rfl <;> simp⟩⟩
theorem out_in {lo hi n : Int} (h : outB lo hi n = false) : lo ≤ n ∧ n ≤ hi := by
  simp only [outB, Bool.or_eq_false_iff, decide_eq_false_iff_not] at h; omega
theorem out_iff (lo hi n : Int) : outB lo hi n = !decide (lo ≤ n ∧ n ≤ hi) := by
  simp only [outB]
  by_cases h1 : n < lo <;> by_cases h2 : hi < n <;> simp [h1, h2] <;> omega
/-- within, told: a world more -/
theorem within1 (lo hi x : Int) (w : World) : Calls Try.prog 58 #[.int .i64 lo, .int .i64 hi, .slice (some ⟨w.heap.size, 0, none⟩) 1 1] (w.alloc (.cells #[.int .i64 x] 3))
    fun e w' => e = .returned (.bool (!outB lo hi x)) ∧ Below w.heap.size w w' := by
  refine (check_within.calls lo hi _ 1 [x] _ _ (reads1 w x) (Nat.le_refl _) rfl).mono ?_
  rintro e w' ⟨rfl, hb⟩
  exact ⟨by simp, ((Below.refl _ _).alloc (Nat.le_refl _) _).trans (hb.mono (by simp))⟩
theorem within2 (lo hi x y : Int) (w : World) : Calls Try.prog 58 #[.int .i64 lo, .int .i64 hi, .slice (some ⟨w.heap.size, 0, none⟩) 2 2] (w.alloc (.cells #[.int .i64 x, .int .i64 y] 3))
    fun e w' => e = .returned (.bool (!(outB lo hi x || outB lo hi y))) ∧ Below w.heap.size w w' := by
  refine (check_within.calls lo hi _ 2 [x, y] _ _ (reads2 w x y) (Nat.le_refl _) rfl).mono ?_
  rintro e w' ⟨rfl, hb⟩
  exact ⟨by simp, ((Below.refl _ _).alloc (Nat.le_refl _) _).trans (hb.mono (by simp))⟩

/-- what Choose comes to -/
def check_Choose.f (a0 a1 : Int) : Option (Int × Int) := some (if outB 0 50 a0 || outB 0 50 a1 then (0, 3) else ((binom a0.toNat a1.toNat : Int), 0))
set_option maxHeartbeats 1000000 in
theorem check_Choose.calls (a0 a1 r1 r2 : Int) (w : World) (h : check_Choose.f a0 a1 = some (r1, r2)) :
    Calls Try.prog 17 #[.int .i64 a0, .int .i64 a1] w fun e w' => e = .returned (.tuple #[.int .i64 r1, .int .i64 r2]) ∧ Below w.heap.size w w' := by
  have h := Option.some.inj h
  cases hb : outB 0 50 a0 || outB 0 50 a1
  · rw [hb] at h
    simp only [Bool.false_eq_true, if_false, Prod.mk.injEq] at h
    obtain ⟨rfl, rfl⟩ := h
    have hc := within2 0 50 a0 a1 w
    rw [hb] at hc
    have HC := Lib.hid hc
    clear hc
    obtain ⟨b1, b2⟩ := Bool.or_eq_false_iff.1 hb
    obtain ⟨p0, p1⟩ := out_in b1
    obtain ⟨q0, q1⟩ := out_in b2
    clear hb b1 b2
    have hix : ∀ w', (Instr.index 82 (.agg (cellsOf (rowF a0.toNat))) (.int .i64 a1)).run Try.prog w' = .ok (.int .i64 (binom a0.toNat a1.toNat)) w' := fun w' => by
      obtain ⟨m, rfl⟩ := Int.eq_ofNat_of_zero_le q0
      exact run_index_agg w' row_under row_key row_cells (by omega) (cellsOf_get _ _ (by omega))
    go_enter Try.func17, Try.ntmps17
    go_wp2_with fail
    refine HC.out.mono ?_
    rintro e w1 ⟨rfl, hb1⟩
    have HB1 := Lib.hid hb1
    clear hb1
    go_wp2_with fail
    refine (choices_int a0 p0 p1 _).mono ?_
    rintro e w2 ⟨rfl, hb2⟩
    have HB2 := Lib.hid hb2
    clear hb2
    go_wp2
    go_ret2
    exact ⟨rfl, HB1.out.trans (HB2.out.mono HB1.out.size)⟩
  · rw [hb] at h
    simp only [if_true, Prod.mk.injEq] at h
    obtain ⟨rfl, rfl⟩ := h
    have hc := within2 0 50 a0 a1 w
    rw [hb] at hc
    have HC := Lib.hid hc
    clear hc hb
    go_enter Try.func17, Try.ntmps17
    go_wp2_with fail
    refine HC.out.mono ?_
    rintro e w1 ⟨rfl, hb1⟩
    have HB1 := Lib.hid hb1
    clear hb1
    go_wp2
    go_ret2
    exact ⟨rfl, HB1.out⟩

/-- a case as described -/
def caseB (a w s f : Int) : Bool := !outB 1 50 a && !(outB 0 a w || outB 0 a s) && !outB 0 s f
theorem isCase_eq (a w s f : Int) : check_isCase.f a w s f = some (caseB a w s f) := by
  simp only [check_isCase.f, check_within.f, Option.bind_some, List.any_cons, List.any_nil, Bool.or_false, caseB]
  cases outB 1 50 a <;> cases (outB 0 a w || outB 0 a s) <;> cases outB 0 s f <;> rfl
theorem case_in {a w s f : Int} (h : caseB a w s f = true) : 1 ≤ a ∧ a ≤ 50 ∧ 0 ≤ w ∧ w ≤ a ∧ 0 ≤ s ∧ s ≤ a ∧ 0 ≤ f ∧ f ≤ s := by
  simp only [caseB, Bool.and_eq_true, Bool.not_eq_true', Bool.or_eq_false_iff] at h
  obtain ⟨⟨h1, h2, h3⟩, h4⟩ := h
  have := out_in h1; have := out_in h2; have := out_in h3; have := out_in h4
  omega
theorem isCase_any (a w s f : Int) (W : World) : Calls Try.prog 61 #[.int .i64 a, .int .i64 w, .int .i64 s, .int .i64 f] W fun e W' => e = .returned (.bool (caseB a w s f)) ∧ Below W.heap.size W W' :=
  check_isCase.calls a w s f _ W (isCase_eq a w s f)

/-- in how many samples just so many are found -/
def justN (a w s f : Int) : Int := ((binom w.toNat f.toNat * binom (a - w).toNat (s - f).toNat : Nat) : Int)
/-- in how many at most so many -/
def uptoN (a w s f : Int) : Int := (upN w.toNat (a - w).toNat s.toNat (f.toNat + 1) : Int)

theorem samples_int (a w s : Int) (ha : a ≤ 50) (h0 : 0 ≤ w) (h1 : w ≤ a) (h2 : 0 ≤ s) (h3 : s ≤ a) (W : World) :
    Calls Try.prog 62 #[.int .i64 a, .int .i64 w, .int .i64 s] W fun e W' => (∃ b n, e = .returned (.map (some b)) ∧ MapAt W' b n (kinds w.toNat (a - w).toNat s.toNat (s.toNat + 1))) ∧ Below W.heap.size W W' := by
  obtain ⟨a, rfl⟩ := Int.eq_ofNat_of_zero_le (show 0 ≤ a by omega)
  obtain ⟨w, rfl⟩ := Int.eq_ofNat_of_zero_le h0
  obtain ⟨s, rfl⟩ := Int.eq_ofNat_of_zero_le h2
  have := samples_any a w s (by omega) (by omega) (by omega) W
  rw [show ((a : Int) - (w : Int)).toNat = a - w by omega]
  exact this
theorem kinds_just {a w s f : Int} (h0 : 0 ≤ w) (h1 : w ≤ a) (hf : 0 ≤ f) (hs : f ≤ s) : kinds w.toNat (a - w).toNat s.toNat (s.toNat + 1) f = justN a w s f := by
  obtain ⟨f, rfl⟩ := Int.eq_ofNat_of_zero_le hf
  obtain ⟨s, rfl⟩ := Int.eq_ofNat_of_zero_le (show 0 ≤ s by omega)
  simp only [Int.toNat_natCast]
  rw [kinds_at _ _ _ _ (by omega), justN, Int.toNat_natCast, show ((s : Int) - (f : Int)).toNat = s - f by omega]
theorem upTo_int (a w s f : Int) (ha : a ≤ 50) (h0 : 0 ≤ w) (h1 : w ≤ a) (hs : s ≤ 50) (hf : 0 ≤ f) (h3 : f ≤ s) (W : World) :
    Calls Try.prog 64 #[.int .i64 a, .int .i64 w, .int .i64 s, .int .i64 f] W fun e W' => e = .returned (.int .i64 (uptoN a w s f)) ∧ Below W.heap.size W W' := by
  obtain ⟨a, rfl⟩ := Int.eq_ofNat_of_zero_le (show 0 ≤ a by omega)
  obtain ⟨w, rfl⟩ := Int.eq_ofNat_of_zero_le h0
  obtain ⟨f, rfl⟩ := Int.eq_ofNat_of_zero_le hf
  obtain ⟨s, rfl⟩ := Int.eq_ofNat_of_zero_le (show 0 ≤ s by omega)
  have := upTo_any a w s f (by omega) (by omega) (by omega) (by omega) W
  unfold uptoN
  rw [show ((a : Int) - (w : Int)).toNat = a - w by omega]
  exact this

/-- what Samples comes to -/
def check_Samples.f (a0 a1 a2 a3 : Int) : Option (Int × Int) := some (if caseB a0 a1 a2 a3 then (justN a0 a1 a2 a3, 0) else (0, 3))
set_option maxHeartbeats 1000000 in
theorem check_Samples.calls (a0 a1 a2 a3 r1 r2 : Int) (w : World) (h : check_Samples.f a0 a1 a2 a3 = some (r1, r2)) :
    Calls Try.prog 19 #[.int .i64 a0, .int .i64 a1, .int .i64 a2, .int .i64 a3] w fun e w' => e = .returned (.tuple #[.int .i64 r1, .int .i64 r2]) ∧ Below w.heap.size w w' := by
  have h := Option.some.inj h
  have hc := isCase_any a0 a1 a2 a3 w
  cases hb : caseB a0 a1 a2 a3
  · rw [hb] at h hc
    simp only [Bool.false_eq_true, if_false, Prod.mk.injEq] at h
    obtain ⟨rfl, rfl⟩ := h
    have HC := Lib.hid hc
    clear hc hb
    go_enter Try.func19, Try.ntmps19
    go_wp2_with fail
    refine HC.out.mono ?_
    rintro e w1 ⟨rfl, hb1⟩
    have HB1 := Lib.hid hb1
    clear hb1
    go_wp2
    go_ret2
    exact ⟨rfl, HB1.out⟩
  · rw [hb] at h hc
    simp only [if_true, Prod.mk.injEq] at h
    obtain ⟨rfl, rfl⟩ := h
    have HC := Lib.hid hc
    obtain ⟨p1, p2, p3, p4, p5, p6, p7, p8⟩ := case_in hb
    clear hc hb
    go_enter Try.func19, Try.ntmps19
    go_wp2_with fail
    refine HC.out.mono ?_
    rintro e w1 ⟨rfl, hb1⟩
    have HB1 := Lib.hid hb1
    clear hb1
    go_wp2_with fail
    refine (samples_int a0 a1 a2 p2 p3 p4 p5 p6 _).mono ?_
    rintro e w2 ⟨⟨b, n, rfl, D, hown, htell⟩, hb2⟩
    have HB2 := Lib.hid (And.intro hb2 htell)
    clear hb2 htell
    go_wp2_with (first | (at_lookup; refine wpList_lookup_own_int _ rfl _ _ 85 rfl 88 2 .i64 kind_law Try.underlying85 Try.underlying2 (zero_int64 _) b n D rfl hown _ _ rfl (kind_key (WalkArith.wf_i64 (by omega))) ?_; intro c hat hwc; have HA := Lib.hid hat; clear hat hwc))
    go_ret2
    have h1 := HB2.out.2 a3 (WalkArith.wf_i64 (by omega))
    rw [HA.out, kinds_just p3 p4 p7 p8] at h1
    have h2 : c = justN a0 a1 a2 a3 := by simpa using h1
    exact ⟨congrArg (fun z => Ending.returned (.tuple #[.int .i64 z, .int .i64 0])) h2, HB1.out.trans (HB2.out.1.mono HB1.out.size)⟩

/-- what AtMost comes to -/
def check_AtMost.f (a0 a1 a2 a3 : Int) : Option (Int × Int) := some (if caseB a0 a1 a2 a3 then (uptoN a0 a1 a2 a3, 0) else (0, 3))
set_option maxHeartbeats 1000000 in
theorem check_AtMost.calls (a0 a1 a2 a3 r1 r2 : Int) (w : World) (h : check_AtMost.f a0 a1 a2 a3 = some (r1, r2)) :
    Calls Try.prog 21 #[.int .i64 a0, .int .i64 a1, .int .i64 a2, .int .i64 a3] w fun e w' => e = .returned (.tuple #[.int .i64 r1, .int .i64 r2]) ∧ Below w.heap.size w w' := by
  have h := Option.some.inj h
  have hc := isCase_any a0 a1 a2 a3 w
  cases hb : caseB a0 a1 a2 a3
  · rw [hb] at h hc
    simp only [Bool.false_eq_true, if_false, Prod.mk.injEq] at h
    obtain ⟨rfl, rfl⟩ := h
    have HC := Lib.hid hc
    clear hc hb
    go_enter Try.func21, Try.ntmps21
    go_wp2_with fail
    refine HC.out.mono ?_
    rintro e w1 ⟨rfl, hb1⟩
    have HB1 := Lib.hid hb1
    clear hb1
    go_wp2
    go_ret2
    exact ⟨rfl, HB1.out⟩
  · rw [hb] at h hc
    simp only [if_true, Prod.mk.injEq] at h
    obtain ⟨rfl, rfl⟩ := h
    have HC := Lib.hid hc
    obtain ⟨p1, p2, p3, p4, p5, p6, p7, p8⟩ := case_in hb
    clear hc hb
    go_enter Try.func21, Try.ntmps21
    go_wp2_with fail
    refine HC.out.mono ?_
    rintro e w1 ⟨rfl, hb1⟩
    have HB1 := Lib.hid hb1
    clear hb1
    go_wp2_with fail
    refine (upTo_int a0 a1 a2 a3 p2 p3 p4 (by omega) p7 p8 _).mono ?_
    rintro e w2 ⟨rfl, hb2⟩
    have HB2 := Lib.hid hb2
    clear hb2
    go_wp2
    go_ret2
    exact ⟨rfl, HB1.out.trans (HB2.out.mono HB1.out.size)⟩
end Go.Proofs.Ytmgdidhhgdpobaa.Hand

/- Texts of the claim, joined: HFirst, HChance, HNumber, HDraw, HHeld, HTest, HPlan, HPick, HBest. -/
import Derived.Test.YtmgdidhhgdpobaaHWithin
import Derived.Test.YtmgdidhhgdpobaaHA
import Derived.Test.YtmgdidhhgdpobaaPrA1
import Derived.Maps.OwnOps
import Derived.RegionTactic
import Derived.ArgAppend
import Derived.Maps.AppendAt
import Derived.Laws.CopyOwn
import Derived.WalkMore
import Derived.ScopeJumps
import Derived.Deep.Draws
import Derived.Deep.QuietTactic
import Derived.BigQuiet
import Derived.WalkKit
import Derived.Below
import Derived.Lib.Hide
import Derived.Test.YtmgdidhhgdpobaaProg
/- Choose, Samples and AtMost come to plain numbers. -/
namespace Go.Proofs.Ytmgdidhhgdpobaa.Hand
set_option linter.unusedVariables false
set_option linter.unusedSimpArgs false
open Go.RowKit Go.Maps Go.Proofs.YtmgdidhhgdpobaaW.PrintWords Go.Proofs.YtmgdidhhgdpobaaW.PrintLast Go.Proofs.YtmgdidhhgdpobaaW.PrintMore Go.Proofs.Ytmgdidhhgdpobaa.PrA

theorem reads1 (w : World) (x : Int) : Kd.C (Kd.int .i64) (w.alloc (.cells #[.int .i64 x] 3)) (some ⟨w.heap.size, 0, none⟩) [x].length [x] :=
  Kd.C_of_reads (d := (0 : Int)) (h1 := fun _ => rfl) ⟨rfl, by simp, fun _ => ⟨_, rfl, fun j hj => by
    obtain rfl : j = 0 := by simpa using hj
    rw [add_plain]; simp⟩⟩
theorem reads2 (w : World) (x y : Int) : Kd.C (Kd.int .i64) (w.alloc (.cells #[.int .i64 x, .int .i64 y] 3)) (some ⟨w.heap.size, 0, none⟩) [x, y].length [x, y] :=
  Kd.C_of_reads (d := (0 : Int)) (h1 := fun _ => rfl) ⟨rfl, by simp, fun _ => ⟨_, rfl, fun j hj => by
    have : j = 0 ∨ j = 1 := by simp at hj; omega
    rw [add_plain]
    rcases this with rfl | rfl <;> simp⟩⟩
theorem out_in {lo hi n : Int} (h : outB lo hi n = false) : lo ≤ n ∧ n ≤ hi := by
  simp only [outB, Bool.or_eq_false_iff, decide_eq_false_iff_not] at h; omega
theorem out_iff (lo hi n : Int) : outB lo hi n = !decide (lo ≤ n ∧ n ≤ hi) := by
  simp only [outB]
  by_cases h1 : n < lo <;> by_cases h2 : hi < n <;> simp [h1, h2] <;> omega
/-- within, told: a world more -/
theorem within1 (lo hi x : Int) (w : World) : Calls Try.prog 58 #[.int .i64 lo, .int .i64 hi, .slice (some ⟨w.heap.size, 0, none⟩) 1 1] (w.alloc (.cells #[.int .i64 x] 3))
    fun e w' => e = .returned (.bool (!outB lo hi x)) ∧ Below w.heap.size w w' := by
  refine (check_within.calls lo hi _ 1 [x] _ _ (reads1 w x) (Nat.le_refl _) rfl).mono ?_
  rintro e w' ⟨rfl, hb⟩
  exact ⟨by simp, ((Below.refl _ _).alloc (Nat.le_refl _) _).trans (hb.mono (by simp))⟩
theorem within2 (lo hi x y : Int) (w : World) : Calls Try.prog 58 #[.int .i64 lo, .int .i64 hi, .slice (some ⟨w.heap.size, 0, none⟩) 2 2] (w.alloc (.cells #[.int .i64 x, .int .i64 y] 3))
    fun e w' => e = .returned (.bool (!(outB lo hi x || outB lo hi y))) ∧ Below w.heap.size w w' := by
  refine (check_within.calls lo hi _ 2 [x, y] _ _ (reads2 w x y) (Nat.le_refl _) rfl).mono ?_
  rintro e w' ⟨rfl, hb⟩
  exact ⟨by simp, ((Below.refl _ _).alloc (Nat.le_refl _) _).trans (hb.mono (by simp))⟩

/-- what Choose comes to -/
def check_Choose.f (a0 a1 : Int) : Option (Int × Int) := some (if outB 0 50 a0 || outB 0 50 a1 then (0, 3) else ((binom a0.toNat a1.toNat : Int), 0))
set_option maxHeartbeats 1000000 in
theorem check_Choose.calls (a0 a1 r1 r2 : Int) (w : World) (h : check_Choose.f a0 a1 = some (r1, r2)) :
    Calls Try.prog 17 #[.int .i64 a0, .int .i64 a1] w fun e w' => e = .returned (.tuple #[.int .i64 r1, .int .i64 r2]) ∧ Below w.heap.size w w' := by
  have h := Option.some.inj h
  cases hb : outB 0 50 a0 || outB 0 50 a1
  · rw [hb] at h
    simp only [Bool.false_eq_true, if_false, Prod.mk.injEq] at h
    obtain ⟨rfl, rfl⟩ := h
    have hc := within2 0 50 a0 a1 w
    rw [hb] at hc
    have HC := Lib.hid hc
    clear hc
    obtain ⟨b1, b2⟩ := Bool.or_eq_false_iff.1 hb
    obtain ⟨p0, p1⟩ := out_in b1
    obtain ⟨q0, q1⟩ := out_in b2
    clear hb b1 b2
    have hix : ∀ w', (Instr.index 82 (.agg (cellsOf (rowF a0.toNat))) (.int .i64 a1)).run Try.prog w' = .ok (.int .i64 (binom a0.toNat a1.toNat)) w' := fun w' => by
      obtain ⟨m, rfl⟩ := Int.eq_ofNat_of_zero_le q0
      exact run_index_agg w' row_under row_key row_cells (by omega) (cellsOf_get _ _ (by omega))
    go_enter Try.func17, Try.ntmps17
    go_wp2_with fail
    refine HC.out.mono ?_
    rintro e w1 ⟨rfl, hb1⟩
    have HB1 := Lib.hid hb1
    clear hb1
    go_wp2_with fail
    refine (choices_int a0 p0 p1 _).mono ?_
    rintro e w2 ⟨rfl, hb2⟩
    have HB2 := Lib.hid hb2
    clear hb2
    go_wp2
    go_ret2
    exact ⟨rfl, HB1.out.trans (HB2.out.mono HB1.out.size)⟩
  · rw [hb] at h
    simp only [if_true, Prod.mk.injEq] at h
    obtain ⟨rfl, rfl⟩ := h
    have hc := within2 0 50 a0 a1 w
    rw [hb] at hc
    have HC := Lib.hid hc
    clear hc hb
    go_enter Try.func17, Try.ntmps17
    go_wp2_with fail
    refine HC.out.mono ?_
    rintro e w1 ⟨rfl, hb1⟩
    have HB1 := Lib.hid hb1
    clear hb1
    go_wp2
    go_ret2
    exact ⟨rfl, HB1.out⟩

/-- a case as described -/
def caseB (a w s f : Int) : Bool := !outB 1 50 a && !(outB 0 a w || outB 0 a s) && !outB 0 s f
theorem isCase_eq (a w s f : Int) : check_isCase.f a w s f = some (caseB a w s f) := by
  simp only [check_isCase.f, check_within.f, Option.bind_some, List.any_cons, List.any_nil, Bool.or_false, caseB]
  cases outB 1 50 a <;> cases (outB 0 a w || outB 0 a s) <;> cases outB 0 s f <;> rfl
theorem case_in {a w s f : Int} (h : caseB a w s f = true) : 1 ≤ a ∧ a ≤ 50 ∧ 0 ≤ w ∧ w ≤ a ∧ 0 ≤ s ∧ s ≤ a ∧ 0 ≤ f ∧ f ≤ s := by
  simp only [caseB, Bool.and_eq_true, Bool.not_eq_true', Bool.or_eq_false_iff] at h
  obtain ⟨⟨h1, h2, h3⟩, h4⟩ := h
  have := out_in h1; have := out_in h2; have := out_in h3; have := out_in h4
  omega
theorem isCase_any (a w s f : Int) (W : World) : Calls Try.prog 61 #[.int .i64 a, .int .i64 w, .int .i64 s, .int .i64 f] W fun e W' => e = .returned (.bool (caseB a w s f)) ∧ Below W.heap.size W W' :=
  check_isCase.calls a w s f _ W (isCase_eq a w s f)

/-- in how many samples just so many are found -/
def justN (a w s f : Int) : Int := ((binom w.toNat f.toNat * binom (a - w).toNat (s - f).toNat : Nat) : Int)
/-- in how many at most so many -/
def uptoN (a w s f : Int) : Int := (upN w.toNat (a - w).toNat s.toNat (f.toNat + 1) : Int)

theorem samples_int (a w s : Int) (ha : a ≤ 50) (h0 : 0 ≤ w) (h1 : w ≤ a) (h2 : 0 ≤ s) (h3 : s ≤ a) (W : World) :
    Calls Try.prog 62 #[.int .i64 a, .int .i64 w, .int .i64 s] W fun e W' => (∃ b n, e = .returned (.map (some b)) ∧ MapAt W' b n (kinds w.toNat (a - w).toNat s.toNat (s.toNat + 1))) ∧ Below W.heap.size W W' := by
  obtain ⟨a, rfl⟩ := Int.eq_ofNat_of_zero_le (show 0 ≤ a by omega)
  obtain ⟨w, rfl⟩ := Int.eq_ofNat_of_zero_le h0
  obtain ⟨s, rfl⟩ := Int.eq_ofNat_of_zero_le h2
  have := samples_any a w s (by omega) (by omega) (by omega) W
  rw [show ((a : Int) - (w : Int)).toNat = a - w by omega]
  exact this
theorem kinds_just {a w s f : Int} (h0 : 0 ≤ w) (h1 : w ≤ a) (hf : 0 ≤ f) (hs : f ≤ s) : kinds w.toNat (a - w).toNat s.toNat (s.toNat + 1) f = justN a w s f := by
  obtain ⟨f, rfl⟩ := Int.eq_ofNat_of_zero_le hf
  obtain ⟨s, rfl⟩ := Int.eq_ofNat_of_zero_le (show 0 ≤ s by omega)
  simp only [Int.toNat_natCast]
  rw [kinds_at _ _ _ _ (by omega), justN, Int.toNat_natCast, show ((s : Int) - (f : Int)).toNat = s - f by omega]
theorem upTo_int (a w s f : Int) (ha : a ≤ 50) (h0 : 0 ≤ w) (h1 : w ≤ a) (hs : s ≤ 50) (hf : 0 ≤ f) (h3 : f ≤ s) (W : World) :
    Calls Try.prog 64 #[.int .i64 a, .int .i64 w, .int .i64 s, .int .i64 f] W fun e W' => e = .returned (.int .i64 (uptoN a w s f)) ∧ Below W.heap.size W W' := by
  obtain ⟨a, rfl⟩ := Int.eq_ofNat_of_zero_le (show 0 ≤ a by omega)
  obtain ⟨w, rfl⟩ := Int.eq_ofNat_of_zero_le h0
  obtain ⟨f, rfl⟩ := Int.eq_ofNat_of_zero_le hf
  obtain ⟨s, rfl⟩ := Int.eq_ofNat_of_zero_le (show 0 ≤ s by omega)
  have := upTo_any a w s f (by omega) (by omega) (by omega) (by omega) W
  unfold uptoN
  rw [show ((a : Int) - (w : Int)).toNat = a - w by omega]
  exact this

/-- what Samples comes to -/
def check_Samples.f (a0 a1 a2 a3 : Int) : Option (Int × Int) := some (if caseB a0 a1 a2 a3 then (justN a0 a1 a2 a3, 0) else (0, 3))
set_option maxHeartbeats 1000000 in
theorem check_Samples.calls (a0 a1 a2 a3 r1 r2 : Int) (w : World) (h : check_Samples.f a0 a1 a2 a3 = some (r1, r2)) :
    Calls Try.prog 19 #[.int .i64 a0, .int .i64 a1, .int .i64 a2, .int .i64 a3] w fun e w' => e = .returned (.tuple #[.int .i64 r1, .int .i64 r2]) ∧ Below w.heap.size w w' := by
  have h := Option.some.inj h
  have hc := isCase_any a0 a1 a2 a3 w
  cases hb : caseB a0 a1 a2 a3
  · rw [hb] at h hc
    simp only [Bool.false_eq_true, if_false, Prod.mk.injEq] at h
    obtain ⟨rfl, rfl⟩ := h
    have HC := Lib.hid hc
    clear hc hb
    go_enter Try.func19, Try.ntmps19
    go_wp2_with fail
    refine HC.out.mono ?_
    rintro e w1 ⟨rfl, hb1⟩
    have HB1 := Lib.hid hb1
    clear hb1
    go_wp2
    go_ret2
    exact ⟨rfl, HB1.out⟩
  · rw [hb] at h hc
    simp only [if_true, Prod.mk.injEq] at h
    obtain ⟨rfl, rfl⟩ := h
    have HC := Lib.hid hc
    obtain ⟨p1, p2, p3, p4, p5, p6, p7, p8⟩ := case_in hb
    clear hc hb
    go_enter Try.func19, Try.ntmps19
    go_wp2_with fail
    refine HC.out.mono ?_
    rintro e w1 ⟨rfl, hb1⟩
    have HB1 := Lib.hid hb1
    clear hb1
    go_wp2_with fail
    refine (samples_int a0 a1 a2 p2 p3 p4 p5 p6 _).mono ?_
    rintro e w2 ⟨⟨b, n, rfl, D, hown, htell⟩, hb2⟩
    have HB2 := Lib.hid (And.intro hb2 htell)
    clear hb2 htell
    go_wp2_with (first | (at_lookup; refine wpList_lookup_own_int _ rfl _ _ 85 rfl 88 2 .i64 kind_law Try.underlying85 Try.underlying2 (zero_int64 _) b n D rfl hown _ _ rfl (kind_key (WalkArith.wf_i64 (by omega))) ?_; intro c hat hwc; have HA := Lib.hid hat; clear hat hwc))
    go_ret2
    have h1 := HB2.out.2 a3 (WalkArith.wf_i64 (by omega))
    rw [HA.out, kinds_just p3 p4 p7 p8] at h1
    have h2 : c = justN a0 a1 a2 a3 := by simpa using h1
    exact ⟨congrArg (fun z => Ending.returned (.tuple #[.int .i64 z, .int .i64 0])) h2, HB1.out.trans (HB2.out.1.mono HB1.out.size)⟩

/-- what AtMost comes to -/
def check_AtMost.f (a0 a1 a2 a3 : Int) : Option (Int × Int) := some (if caseB a0 a1 a2 a3 then (uptoN a0 a1 a2 a3, 0) else (0, 3))
set_option maxHeartbeats 1000000 in
theorem check_AtMost.calls (a0 a1 a2 a3 r1 r2 : Int) (w : World) (h : check_AtMost.f a0 a1 a2 a3 = some (r1, r2)) :
    Calls Try.prog 21 #[.int .i64 a0, .int .i64 a1, .int .i64 a2, .int .i64 a3] w fun e w' => e = .returned (.tuple #[.int .i64 r1, .int .i64 r2]) ∧ Below w.heap.size w w' := by
  have h := Option.some.inj h
  have hc := isCase_any a0 a1 a2 a3 w
  cases hb : caseB a0 a1 a2 a3
  · rw [hb] at h hc
    simp only [Bool.false_eq_true, if_false, Prod.mk.injEq] at h
    obtain ⟨rfl, rfl⟩ := h
    have HC := Lib.hid hc
    clear hc hb
    go_enter Try.func21, Try.ntmps21
    go_wp2_with fail
    refine HC.out.mono ?_
    rintro e w1 ⟨rfl, hb1⟩
    have HB1 := Lib.hid hb1
    clear hb1
    go_wp2
    go_ret2
    exact ⟨rfl, HB1.out⟩
  · rw [hb] at h hc
    simp only [if_true, Prod.mk.injEq] at h
    obtain ⟨rfl, rfl⟩ := h
    have HC := Lib.hid hc
    obtain ⟨p1, p2, p3, p4, p5, p6, p7, p8⟩ := case_in hb
    clear hc hb
    go_enter Try.func21, Try.ntmps21
    go_wp2_with fail
    refine HC.out.mono ?_
    rintro e w1 ⟨rfl, hb1⟩
    have HB1 := Lib.hid hb1
    clear hb1
    go_wp2_with fail
    refine (upTo_int a0 a1 a2 a3 p2 p3 p4 (by omega) p7 p8 _).mono ?_
    rintro e w2 ⟨rfl, hb2⟩
    have HB2 := Lib.hid hb2
    clear hb2
    go_wp2
    go_ret2
    exact ⟨rfl, HB1.out.trans (HB2.out.mono HB1.out.size)⟩
end Go.Proofs.Ytmgdidhhgdpobaa.Hand

/- Chance and Likely come to plain numbers. -/
namespace Go.Proofs.Ytmgdidhhgdpobaa.Hand
set_option linter.unusedVariables false
set_option linter.unusedSimpArgs false
open Go.RowKit Go.Maps Go.Proofs.YtmgdidhhgdpobaaW.PrintWords Go.Proofs.YtmgdidhhgdpobaaW.PrintLast Go.Proofs.YtmgdidhhgdpobaaW.PrintMore Go.Proofs.Ytmgdidhhgdpobaa.PrA

/-- the chance, in least terms -/
def gcdN (a w s f : Int) : Nat := Nat.gcd (binom a.toNat s.toNat) (uptoN a w s f).toNat
def check_Chance.f (a0 a1 a2 a3 : Int) : Option (Int × Int × Int) :=
  some (if caseB a0 a1 a2 a3 then (uptoN a0 a1 a2 a3 / (gcdN a0 a1 a2 a3 : Int), (binom a0.toNat a2.toNat : Int) / (gcdN a0 a1 a2 a3 : Int), 0) else (0, 0, 3))

theorem uptoN_nat (a w s f : Int) : ((uptoN a w s f).toNat : Int) = uptoN a w s f := by unfold uptoN; rw [Int.toNat_natCast]
theorem uptoN_le {a w s f : Int} (h1 : 0 ≤ w) (h2 : w ≤ a) (h3 : 0 ≤ f) (h4 : f ≤ s) : (uptoN a w s f).toNat ≤ binom a.toNat s.toNat := by
  unfold uptoN
  rw [Int.toNat_natCast]
  have := upN_le w.toNat (a - w).toNat s.toNat (f.toNat + 1) (by omega)
  rwa [show w.toNat + (a - w).toNat = a.toNat by omega] at this

set_option maxHeartbeats 2000000 in
theorem check_Chance.calls (a0 a1 a2 a3 r1 r2 r3 : Int) (w : World) (h : check_Chance.f a0 a1 a2 a3 = some (r1, r2, r3)) :
    Calls Try.prog 23 #[.int .i64 a0, .int .i64 a1, .int .i64 a2, .int .i64 a3] w fun e w' => e = .returned (.tuple #[.agg #[.int .i64 r1, .int .i64 r2], .int .i64 r3]) ∧ Below w.heap.size w w' := by
  have h := Option.some.inj h
  cases hb : caseB a0 a1 a2 a3
  · rw [hb] at h
    simp only [Bool.false_eq_true, if_false, Prod.mk.injEq] at h
    obtain ⟨rfl, rfl, rfl⟩ := h
    have hc := fun w => check_AtMost.calls a0 a1 a2 a3 0 3 w (by rw [check_AtMost.f, hb]; rfl)
    have HC := Lib.hid hc
    clear hc hb
    go_enter Try.func23, Try.ntmps23
    go_wp2_with fail
    refine (HC.out _).mono ?_
    rintro e w1 ⟨rfl, hb1⟩
    have c1 : w1.cell? ⟨w.heap.size, 0, none⟩ = some (.int .i64 0) := by rw [hb1.cell (by simp)]; simp
    have c2 : w1.cell? ⟨w.heap.size, 1, none⟩ = some (.int .i64 0) := by rw [hb1.cell (by simp)]; simp
    have f1 : w1.frozen? ⟨w.heap.size, 0, none⟩ = false := by rw [hb1.frozen (by simp)]; simp
    have f2 : w1.frozen? ⟨w.heap.size, 1, none⟩ = false := by rw [hb1.frozen (by simp)]; simp
    have HB1 := Lib.hid hb1
    clear hb1
    go_wp2
    refine bodyPost_ret (v := .tuple #[.agg #[.int .i64 0, .int .i64 0], .int .i64 3]) (by simp [results, Try.results23, go_sem, c1, c2]) rfl ⟨rfl, ?_⟩
    exact (((Below.refl _ _).alloc (Nat.le_refl _) _).trans (HB1.out.mono (by simp))).setCell (by simp) _ |>.setCell (by simp) _
  · rw [hb] at h
    simp only [if_true, Prod.mk.injEq] at h
    obtain ⟨rfl, rfl, rfl⟩ := h
    have hc := fun w => check_AtMost.calls a0 a1 a2 a3 (uptoN a0 a1 a2 a3) 0 w (by rw [check_AtMost.f, hb]; rfl)
    have HC := Lib.hid hc
    obtain ⟨p1, p2, p3, p4, p5, p6, p7, p8⟩ := case_in hb
    have hul := uptoN_le p3 p4 p7 p8
    have hun := uptoN_nat a0 a1 a2 a3
    have hpos := binom_pos a0.toNat a2.toNat (by omega)
    have hbb := binom_le50 a0.toNat a2.toNat (by omega)
    unfold gcdN
    clear hc hb
    obtain ⟨n, hn⟩ : ∃ n, n = (uptoN a0 a1 a2 a3).toNat := ⟨_, rfl⟩
    obtain ⟨m, hm⟩ : ∃ m, m = binom a0.toNat a2.toNat := ⟨_, rfl⟩
    rw [← hun] at HC ⊢
    rw [← hn] at HC hul ⊢
    rw [← hm] at hul hpos hbb ⊢
    have hix : ∀ w', (Instr.index 82 (.agg (cellsOf (rowF a0.toNat))) (.int .i64 a2)).run Try.prog w' = .ok (.int .i64 m) w' := fun w' => by
      obtain ⟨q, rfl⟩ := Int.eq_ofNat_of_zero_le p5
      rw [hm]
      exact run_index_agg w' row_under row_key row_cells (by omega) (cellsOf_get _ _ (by omega))
    clear hn hm hun
    go_enter Try.func23, Try.ntmps23
    go_wp2_with fail
    refine (HC.out _).mono ?_
    rintro e w1 ⟨rfl, hb1⟩
    have HB1 := Lib.hid hb1
    clear hb1
    go_wp2_with fail
    refine (choices_int a0 (by omega) p2 _).mono ?_
    rintro e w2 ⟨rfl, hb2⟩
    have hb3 := HB1.out.trans (hb2.mono HB1.out.size)
    have HB3 := Lib.hid hb3
    clear hb2 hb3
    go_wp2
    go_loopw [13, 14] (fun x y wr => ∃ a b : Nat, x = .int .i64 a ∧ y = .int .i64 b ∧ 0 < a ∧ a ≤ m ∧ b ≤ m ∧ Hid (Nat.gcd a b = Nat.gcd m n) ∧ Hid (Below (w.alloc (.cells #[.int .i64 0, .int .i64 0] 27)).heap.size (w.alloc (.cells #[.int .i64 0, .int .i64 0] 27)) wr)) (fun _ y _ => (intOf y).toNat)
    case atStart => exact ⟨m, n, rfl, rfl, hpos, Nat.le_refl _, hul, rfl, HB3.out⟩
    case round =>
      obtain ⟨a, b, rfl, rfl, ha, ham, hbm, HG, HW⟩ := hrel
      by_cases hb : 0 < b
      · have hbi : (0 : Int) < (b : Int) := by omega
        have e1 : (a : Int) % (b : Int) = ((a % b : Nat) : Int) := by omega
        have l1 : a % b < b := Nat.mod_lt _ hb
        have e0 : ((b : Int) == 0) = false := beq_eq_false_iff_ne.2 (by omega)
        have e2 : IntKind.i64.wrap ((a : Int).tmod (b : Int)) = ((a % b : Nat) : Int) := by rw [Int.tmod_eq_emod_of_nonneg (by omega), e1]; exact IntWalk.i64_in _ (by omega)
        have HE := Lib.hid e1
        clear e1
        go_wp2
        go_quiet (fail)
        clear e2
        go_wp2
        go_roundw
        case rel => exact ⟨b, a % b, rfl, congrArg (Value.int .i64) HE.out, hb, hbm, by omega, by show Nat.gcd b (a % b) = _; rw [← HG.out, Nat.gcd_comm a b, Nat.gcd_rec b a, Nat.gcd_comm], below_drewN HW.out nq⟩
        case measure => simp [intOf]; omega
      · have hb0 : b = 0 := by omega
        have hga : a = Nat.gcd m n := by rw [← HG.out, hb0, Nat.gcd_zero_right]
        have HGA := Lib.hid hga
        have hbi : ¬ (0 : Int) < (b : Int) := by omega
        clear hga hb0
        have e0 : ((a : Int) == 0) = false := beq_eq_false_iff_ne.2 (by omega)
        have d1 : (n : Int) / (a : Int) ≤ n := Int.ediv_le_self _ (by omega)
        have d2 : (m : Int) / (a : Int) ≤ m := Int.ediv_le_self _ (by omega)
        have d3 : 0 ≤ (n : Int) / (a : Int) := Int.ediv_nonneg (by omega) (by omega)
        have d4 : 0 ≤ (m : Int) / (a : Int) := Int.ediv_nonneg (by omega) (by omega)
        have c1 : wr.cell? ⟨w.heap.size, 0, none⟩ = some (.int .i64 0) := by rw [HW.out.cell (by simp)]; simp
        have c2 : wr.cell? ⟨w.heap.size, 1, none⟩ = some (.int .i64 0) := by rw [HW.out.cell (by simp)]; simp
        have f1 : wr.frozen? ⟨w.heap.size, 0, none⟩ = false := by rw [HW.out.frozen (by simp)]; simp
        have f2 : wr.frozen? ⟨w.heap.size, 1, none⟩ = false := by rw [HW.out.frozen (by simp)]; simp
        go_wp2
        go_region
        go_wp2
        refine bodyPost_ret (v := .tuple #[.agg #[.int .i64 ((n : Int) / (a : Int)), .int .i64 ((m : Int) / (a : Int))], .int .i64 0]) (by simp [results, Try.results23, go_sem, c1, c2]) rfl ⟨?_, ?_⟩
        · rw [HGA.out]; rfl
        · exact ((((Below.refl _ _).alloc (Nat.le_refl _) _).trans (HW.out.mono (by simp))).setCell (by simp) _ |>.setCell (by simp) _).drew

/-- the best number of wrong logs among the first ones, and how often -/
def likeN (a s f : Int) : Nat → Int × Int
  | 0 => (0, -1)
  | k + 1 => if (likeN a s f k).2 < justN a k s f then ((k : Int), justN a k s f) else likeN a s f k
theorem justN_bound {a w s f : Int} (ha : a ≤ 50) (h1 : 0 ≤ w) (h2 : w ≤ a) (h3 : 0 ≤ f) (h4 : f ≤ s) : 0 ≤ justN a w s f ∧ justN a w s f ≤ 1125899906842624 := by
  have h := term_le w.toNat (a - w).toNat s.toNat f.toNat (by omega)
  have hb := binom_le50 (w.toNat + (a - w).toNat) s.toNat (by omega)
  unfold justN
  rw [show (s - f).toNat = s.toNat - f.toNat by omega]
  omega
def check_Likely.f (a0 a1 a2 : Int) : Option (Int × Int) := some (if caseB a0 0 a1 a2 then ((likeN a0 a1 a2 (a0.toNat + 1)).1, 0) else (0, 3))
set_option maxHeartbeats 2000000 in
theorem check_Likely.calls (a0 a1 a2 r1 r2 : Int) (w : World) (h : check_Likely.f a0 a1 a2 = some (r1, r2)) :
    Calls Try.prog 33 #[.int .i64 a0, .int .i64 a1, .int .i64 a2] w fun e w' => e = .returned (.tuple #[.int .i64 r1, .int .i64 r2]) ∧ Below w.heap.size w w' := by
  have h := Option.some.inj h
  have hc := isCase_any a0 0 a1 a2 w
  cases hb : caseB a0 0 a1 a2
  · rw [hb] at h hc
    simp only [Bool.false_eq_true, if_false, Prod.mk.injEq] at h
    obtain ⟨rfl, rfl⟩ := h
    have HC := Lib.hid hc
    clear hc hb
    go_enter Try.func33, Try.ntmps33
    go_wp2_with fail
    refine HC.out.mono ?_
    rintro e w1 ⟨rfl, hb1⟩
    have HB1 := Lib.hid hb1
    clear hb1
    go_wp2
    go_ret2
    exact ⟨rfl, HB1.out⟩
  · rw [hb] at h hc
    simp only [if_true, Prod.mk.injEq] at h
    obtain ⟨hr1, rfl⟩ := h
    have HR := Lib.hid hr1
    have HC := Lib.hid hc
    obtain ⟨p1, p2, p3, p4, p5, p6, p7, p8⟩ := case_in hb
    clear hc hb hr1
    go_enter Try.func33, Try.ntmps33
    go_wp2_with fail
    refine HC.out.mono ?_
    rintro e w1 ⟨rfl, hb1⟩
    have HB1 := Lib.hid hb1
    clear hb1
    go_wp2
    go_loopw [8, 9, 19] (fun x y j wr => ∃ (k : Nat) (b m : Int), (k : Int) ≤ a0 + 1 ∧ j = .int .i64 k ∧ x = .int .i64 b ∧ y = .int .i64 m ∧ Hid (likeN a0 a1 a2 k = (b, m)) ∧ Hid (Below w.heap.size w wr)) (fun _ _ j _ => 60 - (intOf j).toNat)
    case atStart => exact ⟨0, 0, -1, by omega, rfl, rfl, rfl, rfl, HB1.out⟩
    case round =>
      obtain ⟨k, b, m, hk, rfl, rfl, rfl, HL, HW⟩ := hrel
      by_cases hlt : (k : Int) < a0 + 1
      · have hjb := justN_bound p2 (show (0 : Int) ≤ k by omega) (show (k : Int) ≤ a0 by omega) p7 p8
        have hstep : likeN a0 a1 a2 (k + 1) = if m < justN a0 k a1 a2 then ((k : Int), justN a0 k a1 a2) else (b, m) := by
          show (if (likeN a0 a1 a2 k).2 < justN a0 k a1 a2 then ((k : Int), justN a0 k a1 a2) else likeN a0 a1 a2 k) = _
          rw [HL.out]
        have HST := Lib.hid hstep
        have hkj := kinds_just (a := a0) (show (0 : Int) ≤ k by omega) (show (k : Int) ≤ a0 by omega) p7 p8
        have HKJ := Lib.hid hkj
        clear hstep hkj
        go_wp2_with fail
        refine (samples_int a0 k a1 p2 (by omega) (by omega) p5 p6 _).mono ?_
        rintro e w2 ⟨⟨bm, n, rfl, D, hown, htell⟩, hb2⟩
        have HB2 := Lib.hid (And.intro hb2 htell)
        clear hb2 htell
        go_wp2_with (first | (at_lookup; refine wpList_lookup_own_int _ rfl _ _ 85 rfl 88 2 .i64 kind_law Try.underlying85 Try.underlying2 (zero_int64 _) bm n D rfl hown _ _ rfl (kind_key (WalkArith.wf_i64 (by omega))) ?_; intro c hat hwc; have HA := Lib.hid hat; clear hat hwc))
        all_goals
          have h1 := HB2.out.2 a2 (WalkArith.wf_i64 (by omega))
          rw [HA.out, HKJ.out] at h1
          have h2 : c = justN a0 k a1 a2 := by simpa using h1
          go_roundw
        case rel =>
          have hgt : m < c := by assumption
          exact ⟨k + 1, k, c, by omega, by go_num, rfl, rfl, by show likeN a0 a1 a2 (k + 1) = _; rw [HST.out, ← h2, if_pos hgt], HW.out.trans (HB2.out.1.mono HW.out.size)⟩
        case measure => simp [intOf]; omega
        case rel =>
          have hgt : c ≤ m := by assumption
          exact ⟨k + 1, b, m, by omega, by go_num, rfl, rfl, by show likeN a0 a1 a2 (k + 1) = _; rw [HST.out, ← h2, if_neg (by omega)], HW.out.trans (HB2.out.1.mono HW.out.size)⟩
        case measure => simp [intOf]; omega
      · have hke : k = a0.toNat + 1 := by omega
        have HK := Lib.hid hke
        clear hke
        go_wp2
        go_ret2
        have h1 := HR.out
        rw [← HK.out, HL.out] at h1
        exact ⟨congrArg (fun z => Ending.returned (.tuple #[.int .i64 z, .int .i64 0])) h1, HW.out⟩
end Go.Proofs.Ytmgdidhhgdpobaa.Hand

/- Number comes to plain numbers. -/
namespace Go.Proofs.Ytmgdidhhgdpobaa.Hand
set_option linter.unusedVariables false
set_option linter.unusedSimpArgs false
open Go.RowKit Go.Maps Go.Proofs.YtmgdidhhgdpobaaW.PrintWords Go.Proofs.YtmgdidhhgdpobaaW.PrintLast Go.Proofs.YtmgdidhhgdpobaaW.PrintMore Go.Proofs.Ytmgdidhhgdpobaa.PrA

/-- logs from a next one on, each later than the one before it -/
def okFrom (a : Int) : Int → List Int → Bool
  | _, [] => true
  | n, x :: l => !outB n (a - 1) x && okFrom a (x + 1) l
/-- the samples that come after one -/
def afterN (a : Int) : List Int → Int
  | [] => 0
  | x :: l => (binom (a - x - 1).toNat (l.length + 1) : Int) + afterN a l
def check_Number.f (a0 : Int) (l1 : List Int) : Option (Int × Int) :=
  some (if outB 1 50 a0 then (0, 3) else if okFrom a0 0 l1 then ((binom a0.toNat l1.length : Int) - 1 - afterN a0 l1, 0) else (0, 2))

theorem okFrom_len : ∀ (l : List Int) (a n : Int), n ≤ a → okFrom a n l = true → n + l.length ≤ a
  | [], _, _, h, _ => by simpa using h
  | x :: l, a, n, _, h => by
    simp only [okFrom, Bool.and_eq_true, Bool.not_eq_true'] at h
    have h1 := out_in h.1
    have := okFrom_len l a (x + 1) (by omega) h.2
    simp only [List.length_cons]; omega
theorem okFrom_mem : ∀ (l : List Int) (a n : Int), okFrom a n l = true → ∀ x ∈ l, n ≤ x ∧ x ≤ a - 1
  | [], _, _, _, x, hx => by simp at hx
  | y :: l, a, n, h, x, hx => by
    simp only [okFrom, Bool.and_eq_true, Bool.not_eq_true'] at h
    have h1 := out_in h.1
    rcases List.mem_cons.1 hx with rfl | hx
    · exact h1
    · have := okFrom_mem l a (y + 1) h.2 x hx; omega
theorem drop_cons_rd (l : List Int) (k : Nat) (h : k < l.length) : l.drop k = rd l (k : Int) :: l.drop (k + 1) := by
  rw [List.drop_eq_getElem_cons h]; simp [rd, h]
theorem afterN_bound : ∀ (l : List Int) (a : Int), a ≤ 50 → (∀ x ∈ l, 0 ≤ x) → 0 ≤ afterN a l ∧ afterN a l ≤ (l.length : Int) * 1125899906842624
  | [], _, _, _ => by simp [afterN]
  | x :: l, a, h, hx => by
    have ih := afterN_bound l a h (fun y hy => hx y (by simp [hy]))
    have h0 := hx x (by simp)
    have hb := binom_le50 (a - x - 1).toNat (l.length + 1) (by omega)
    simp only [afterN, List.length_cons]
    omega

set_option maxHeartbeats 4000000 in
set_option maxRecDepth 100000 in
theorem check_Number.calls (a0 : Int) (A1 : Option Addr) (c1 : Nat) (l1 : List Int) (r1 r2 : Int) (w : World) (hr1 : Kd.C (Kd.int .i64) w A1 l1.length l1) (hc1 : l1.length ≤ c1) (h : check_Number.f a0 l1 = some (r1, r2)) :
    Calls Try.prog 28 #[.int .i64 a0, .slice A1 l1.length c1] w fun e w' => e = .returned (.tuple #[.int .i64 r1, .int .i64 r2]) ∧ Below w.heap.size w w' := by
  have hm : l1.length ≤ 9223372036854775807 := hr1.2.1
  have h := Option.some.inj h
  have HR1 := Lib.hid hr1
  have hc := within1 1 50 a0 w
  clear hr1
  cases hb : outB 1 50 a0
  · rw [hb] at h hc
    simp only [Bool.false_eq_true, if_false] at h
    have HF := Lib.hid h
    clear h
    have HC := Lib.hid hc
    obtain ⟨p0, p1⟩ := out_in hb
    clear hc hb
    go_enter Try.func28, Try.ntmps28
    go_wp2_with fail
    refine HC.out.mono ?_
    rintro e w1 ⟨rfl, hb1⟩
    have HB1 := Lib.hid hb1
    clear hb1
    go_wp2
    go_loopw [6, 18] (fun x j wr => ∃ (k : Nat) (n : Int), k ≤ l1.length ∧ j = .int .i64 k ∧ x = .int .i64 n ∧ 0 ≤ n ∧ n ≤ a0 ∧ Hid (okFrom a0 n (l1.drop k) = okFrom a0 0 l1) ∧ Hid (Below w.heap.size w wr)) (fun _ j _ => l1.length - (intOf j).toNat)
    case atStart => exact ⟨0, 0, Nat.zero_le _, rfl, rfl, by omega, by omega, rfl, HB1.out⟩
    case round =>
      obtain ⟨k, n, hk, rfl, rfl, hn0, hn1, HO, HW⟩ := hrel
      by_cases hlt : k < l1.length
      · have hrw := Kd.C_below HR1.out HW.out
        obtain ⟨ad, e1, hx⟩ := Kd.at_int hrw (k : Int) (by omega) (by omega)
        cases e1
        rw [Int.toNat_natCast] at hx
        have hd := drop_cons_rd l1 k hlt
        obtain ⟨x, hx1⟩ : ∃ x, x = rd l1 (k : Int) := ⟨_, rfl⟩
        rw [← hx1] at hx hd
        have hoo := HO.out
        rw [hd] at hoo
        simp only [okFrom] at hoo
        have hcw := fun W : World => within1 n (a0 - 1) x W
        cases hbx : outB n (a0 - 1) x
        · rw [hbx] at hcw hoo
          obtain ⟨q0, q1⟩ := out_in hbx
          have HOO := Lib.hid hoo
          have HCW := Lib.hid hcw
          clear hoo hcw hd hx1 hrw hbx
          go_wp2_with fail
          refine (HCW.out _).mono ?_
          rintro e w2 ⟨rfl, hb2⟩
          have HB2 := Lib.hid hb2
          clear hb2
          go_wp2
          go_roundw
          case rel => exact ⟨k + 1, x + 1, by omega, by go_num, rfl, by omega, by omega, Lib.hid (by simpa using HOO.out), HW.out.trans (HB2.out.mono HW.out.size)⟩
          case measure => simp [intOf]; omega
        · rw [hbx] at hcw hoo
          have HOO := Lib.hid hoo
          have HCW := Lib.hid hcw
          clear hoo hcw hd hx1 hrw hbx
          go_wp2_with fail
          refine (HCW.out _).mono ?_
          rintro e w2 ⟨rfl, hb2⟩
          have HB2 := Lib.hid hb2
          clear hb2
          go_wp2
          go_ret2
          have h1 := HF.out
          have h2 : okFrom a0 0 l1 = false := by simpa using HOO.out.symm
          rw [h2] at h1
          simp only [Bool.false_eq_true, if_false, Prod.mk.injEq] at h1
          obtain ⟨rfl, rfl⟩ := h1
          exact ⟨rfl, HW.out.trans (HB2.out.mono HW.out.size)⟩
      · have hke : k = l1.length := by omega
        have hok : okFrom a0 0 l1 = true := by rw [← HO.out, hke, List.drop_length]; rfl
        have hlen := okFrom_len l1 a0 0 (by omega) hok
        have hmem := okFrom_mem l1 a0 0 hok
        have hab := afterN_bound l1 a0 p1 (fun x hx => (hmem x hx).1)
        have h1 := HF.out
        rw [hok] at h1
        simp only [if_true, Prod.mk.injEq] at h1
        have HR := Lib.hid h1
        have HM := Lib.hid hmem
        clear hke hok hmem h1
        go_wp2
        have hlen' : l1.length ≤ 50 := by omega
        obtain ⟨ha0, ha1⟩ := hab
        obtain ⟨wo, rfl⟩ : ∃ wo : World, wo = wr := ⟨_, rfl⟩
        go_loopw [9, 34] (fun y j wr => ∃ (i : Nat) (m : Int), i ≤ l1.length ∧ j = .int .i64 i ∧ y = .int .i64 m ∧ 0 ≤ m ∧ m ≤ (i : Int) * 1125899906842624 ∧ Hid (m + afterN a0 (l1.drop i) = afterN a0 l1) ∧ Hid (Below w.heap.size w wr)) (fun _ j _ => l1.length - (intOf j).toNat)
        case atStart => exact ⟨0, 0, Nat.zero_le _, rfl, rfl, by omega, by omega, by show (0 : Int) + _ = _; rw [Int.zero_add, List.drop_zero], HW.out⟩
        case round =>
          obtain ⟨i, m, hi, rfl, rfl, hm0, hm1, HA, HV⟩ := hrel
          by_cases hli : i < l1.length
          · have hrw := Kd.C_below HR1.out HV.out
            obtain ⟨ad, e1, hx⟩ := Kd.at_int hrw (i : Int) (by omega) (by omega)
            cases e1
            rw [Int.toNat_natCast] at hx
            have hd := drop_cons_rd l1 i hli
            obtain ⟨x, hx1⟩ : ∃ x, x = rd l1 (i : Int) := ⟨_, rfl⟩
            rw [← hx1] at hx hd
            have hxm := HM.out x (by rw [hx1]; simp [rd, hli])
            obtain ⟨x0, x1⟩ := hxm
            have haa := HA.out
            rw [hd] at haa
            simp only [afterN, List.length_drop] at haa
            have hbz := binom_le50 (a0 - x - 1).toNat (l1.length - (i + 1) + 1) (by omega)
            obtain ⟨z, hz⟩ : ∃ z : Nat, z = binom (a0 - x - 1).toNat (l1.length - (i + 1) + 1) := ⟨_, rfl⟩
            rw [← hz] at haa hbz
            have hch := choices_int (a0 - x - 1) (by omega) (by omega)
            obtain ⟨q, hq⟩ : ∃ q : Nat, q = (a0 - x - 1).toNat := ⟨_, rfl⟩
            rw [← hq] at hch hz
            have hq50 : q ≤ 50 := by omega
            have HCH := Lib.hid hch
            clear hch hq
            have hix : ∀ w', (Instr.index 82 (.agg (cellsOf (rowF q))) (.int .i64 ((l1.length : Int) - (i : Int)))).run Try.prog w' = .ok (.int .i64 z) w' := fun w' => by
              rw [show ((l1.length : Int) - (i : Int)) = ((l1.length - (i + 1) + 1 : Nat) : Int) by omega, hz]
              exact run_index_agg w' row_under row_key row_cells (by omega) (cellsOf_get _ _ (by omega))
            have HAA := Lib.hid haa
            clear haa hd hx1 hrw hz
            go_wp2_with fail
            refine (HCH.out _).mono ?_
            rintro e w2 ⟨rfl, hb2⟩
            have HB2 := Lib.hid hb2
            clear hb2
            go_wp2
            go_roundw
            case rel => exact ⟨i + 1, m + z, by omega, by go_num, rfl, by omega, by omega, Lib.hid (by have := HAA.out; omega), HV.out.trans (HB2.out.mono HV.out.size)⟩
            case measure => simp [intOf]; omega
          · have hie : i = l1.length := by omega
            have hme : m = afterN a0 l1 := by rw [← HA.out, hie, List.drop_length]; simp [afterN]
            have HME := Lib.hid hme
            have hbz := binom_le50 a0.toNat l1.length (by omega)
            have hr := HR.out
            rw [← hme] at hr
            obtain ⟨hr1', rfl⟩ := hr
            obtain ⟨z, hz⟩ : ∃ z : Nat, z = binom a0.toNat l1.length := ⟨_, rfl⟩
            rw [← hz] at hbz hr1'
            have HR2 := Lib.hid hr1'
            have hix : ∀ w', (Instr.index 82 (.agg (cellsOf (rowF a0.toNat))) (.int .i64 (l1.length : Int))).run Try.prog w' = .ok (.int .i64 z) w' := fun w' => by
              rw [hz]; exact run_index_agg w' row_under row_key row_cells (by omega) (cellsOf_get _ _ (by omega))
            clear hie hme hz hr1'
            go_wp2_with fail
            refine (choices_int a0 (by omega) p1 _).mono ?_
            rintro e w2 ⟨rfl, hb2⟩
            have HB2 := Lib.hid hb2
            clear hb2
            go_wp2
            go_ret2
            exact ⟨congrArg (fun z => Ending.returned (.tuple #[.int .i64 z, .int .i64 0])) HR2.out, HV.out.trans (HB2.out.mono HV.out.size)⟩
  · rw [hb] at h hc
    simp only [if_true, Prod.mk.injEq] at h
    obtain ⟨rfl, rfl⟩ := h
    have HC := Lib.hid hc
    clear hc hb
    go_enter Try.func28, Try.ntmps28
    go_wp2_with fail
    refine HC.out.mono ?_
    rintro e w1 ⟨rfl, hb1⟩
    have HB1 := Lib.hid hb1
    clear hb1
    go_wp2
    go_ret2
    exact ⟨rfl, HB1.out⟩
end Go.Proofs.Ytmgdidhhgdpobaa.Hand

/- Draw comes to a plain list. -/
namespace Go.Proofs.Ytmgdidhhgdpobaa.Hand
set_option linter.unusedVariables false
set_option linter.unusedSimpArgs false
open Go.RowKit Go.Maps Go.Proofs.YtmgdidhhgdpobaaW.PrintWords Go.Proofs.YtmgdidhhgdpobaaW.PrintLast Go.Proofs.YtmgdidhhgdpobaaW.PrintMore Go.Proofs.Ytmgdidhhgdpobaa.PrA

/-- the sample with a number: so many logs are left, the first of them, so many are left to draw -/
def drawFrom : Nat → Int → Nat → Int → List Int
  | _, _, 0, _ => []
  | 0, _, _ + 1, _ => []
  | n + 1, log, left + 1, num => if (binom n left : Int) ≤ num then drawFrom n (log + 1) (left + 1) (num - binom n left) else log :: drawFrom n (log + 1) left num
def check_Draw.f (a0 a1 a2 : Int) : Option (List Int × Int) :=
  some (if outB 1 50 a0 || outB 0 a0 a1 then ([], 3) else if a2 < 0 ∨ (binom a0.toNat a1.toNat : Int) ≤ a2 then ([], 5) else (drawFrom a0.toNat 0 a1.toNat a2, 0))

theorem drawFrom_none (n : Nat) (log num : Int) : drawFrom n log 0 num = [] := by cases n <;> rfl
theorem drawFrom_skip {n left : Nat} {log num : Int} (hl : 0 < left) (h : (binom n (left - 1) : Int) ≤ num) : drawFrom (n + 1) log left num = drawFrom n (log + 1) left (num - binom n (left - 1)) := by
  obtain ⟨l, rfl⟩ : ∃ l, left = l + 1 := ⟨left - 1, by omega⟩
  rw [drawFrom, Nat.add_sub_cancel] at *
  rw [if_pos h]
theorem drawFrom_take {n left : Nat} {log num : Int} (hl : 0 < left) (h : num < (binom n (left - 1) : Int)) : drawFrom (n + 1) log left num = log :: drawFrom n (log + 1) (left - 1) num := by
  obtain ⟨l, rfl⟩ : ∃ l, left = l + 1 := ⟨left - 1, by omega⟩
  rw [drawFrom, Nat.add_sub_cancel] at *
  rw [if_neg (by omega)]
theorem run_cut3 {P : Program} (w : World) (t e : TypeId) (ht : P.underlying t = some (.slice e)) {i : TypeInfo} (hi : P.info? e = some i) (ao : Option Addr) (n cap : Nat) (h : n ≤ cap) :
    (Instr.slice t (.slice ao n cap) none (some (.int .i64 (n : Int))) (some (.int .i64 (n : Int)))).run P w = .ok (.slice ao n n) w := by
  have hel : P.elem t = e := by simp [Program.elem, ht]
  have hu : P.underlying t = some (.slice (P.elem t)) := by rw [hel]; exact ht
  rw [run_slice_hm w t ao n cap hu .i64 .i64 n n (by omega) (by omega) (by omega), hel]
  have : ∀ a : Addr, a.add 0 = a := fun a => rfl
  simp [sizeOf, typeInfo, hi, sliced, Result.andThen, this]
theorem own_out {w : World} {base n : Nat} {e : TypeId} {k : IntKind} {v : Value} {xs : List Int} (h : w.ownsRow base e 1 v n (nums k xs)) :
    ∃ A c, v = .slice A xs.length c ∧ xs.length ≤ c ∧ (A = none → xs.length = 0 ∧ c = 0) ∧ ReadsInt w k A xs.length xs := by
  have hl : xs.length = n := by have := h.1; simp [nums] at this; exact this
  obtain ⟨A, c, rfl, hr⟩ := own_reads h
  rw [hl]
  refine ⟨A, c, rfl, ?_, ?_, hr⟩
  · rcases h.2 with ⟨hv, h0⟩ | ⟨g, cap, cur, hv, _, _, hc, _⟩
    · omega
    · cases hv; exact hc
  · rintro rfl
    rcases h.2 with ⟨hv, h0⟩ | ⟨g, cap, cur, hv, _⟩
    · cases hv; exact ⟨rfl, rfl⟩
    · cases hv
theorem reads_cells {w : World} {k : IntKind} {ao : Option Addr} {xs : List Int} (h : ReadsInt w k ao xs.length xs) (b : Addr) (hb : ao = some b) : ∀ j u, (nums k xs)[j]? = some u → w.cell? (b.add j) = some u := by
  intro j u hu
  have hj : j < xs.length := by
    have := (List.getElem?_eq_some_iff.1 hu).1
    simpa [nums] using this
  obtain ⟨ad, e, hc⟩ := h.2.2 (by omega)
  rw [hb] at e
  cases e
  rw [hc j hj]
  simpa [nums, hj, List.getD_eq_getElem?_getD] using hu
theorem own_block {w : World} {base e size g n cap : Nat} {xs : List Value} (h : w.ownsRow base e size (.slice (some ⟨g, 0, none⟩) n cap) n xs) : ∃ cur : Array Value, w.heap[g]? = some (.cells cur.toList.toArray e (0, 0)) ∧ cur.size = cap * size := by
  rcases h.2 with ⟨hv, _⟩ | ⟨g', cap', cur, hv, _, hh, _, _, hc, _⟩
  · cases hv
  · cases hv; exact ⟨cur, by simpa using hh, hc⟩
theorem below_of_grown {w w1 : World} (h : w.grownBy w1 none) : Below w.heap.size w w1 := (Below.refl _ _).grown h (Nat.le_refl _) (fun j e => by cases e)
theorem reads_some {w : World} {k : IntKind} {ao : Option Addr} {xs : List Int} (h : ReadsInt w k ao xs.length xs) (hp : 0 < xs.length) : ∃ ad, ao = some ad ∧ ∀ j u, (nums k xs)[j]? = some u → w.cell? (ad.add j) = some u := by
  obtain ⟨ad, e, _⟩ := h.2.2 hp
  exact ⟨ad, e, reads_cells h ad e⟩
theorem nums_min (k : IntKind) (xs : List Int) : (nums k xs).length = Nat.min xs.length xs.length := by rw [show (nums k xs).length = xs.length by simp [nums]]; exact (Nat.min_self _).symm
theorem nums_one (k : IntKind) (xs : List Int) : ∀ v ∈ nums k xs, v.oneCell' = true := by simp [nums, Value.oneCell']
theorem own_copied {w : World} {base e g : Nat} {k : IntKind} {cur : List Value} {xs : List Int} (h : w.heap[g]? = some (.cells (splice cur 0 (nums k xs)).toArray e (0, 0))) (hc : cur.length = xs.length) (hb : base ≤ g) (hx : xs.length ≤ maxLen) :
    Kd.R (Kd.int k) e w base (fun _ => True) (.slice (some ⟨g, 0, none⟩) xs.length xs.length) xs := by
  have hs : splice cur 0 (nums k xs) = nums k xs := by
    simp only [splice, List.take_zero, List.nil_append, Nat.zero_add]
    rw [List.drop_eq_nil_of_le (by simp [nums]; omega), List.append_nil]
  rw [hs] at h
  refine Kd.R_of_own (enc := Value.int k) (h1 := fun _ => rfl) ?_ (fun _ _ => trivial)
  refine ⟨by simp [encs], .inr ⟨g, xs.length, (nums k xs).toArray, rfl, hb, h, Nat.le_refl _, hx, by simp [nums], ?_⟩⟩
  rw [List.take_of_length_le (by simp [nums])]
  rfl
theorem infoInt : (Try.prog.info? 3).map (fun i => (i.zero, i.size, i.bytes)) = some (some (.int .i64 0), 1, 8) := by kernel_rfl

set_option maxHeartbeats 4000000 in
set_option maxRecDepth 100000 in
theorem draw_good (a0 a1 a2 : Int) (p0 : 1 ≤ a0) (p1 : a0 ≤ 50) (q0 : 0 ≤ a1) (q1 : a1 ≤ a0) (n0 : 0 ≤ a2) (n1 : a2 < (binom a0.toNat a1.toNat : Int)) (w : World) :
    Calls Try.prog 26 #[.int .i64 a0, .int .i64 a1, .int .i64 a2] w fun e w' => ∃ v0_ : Value, e = .returned (.tuple #[v0_, .int .i64 0]) ∧ Kd.R (Kd.int .i64) 3 w' w.heap.size (fun _ => True) v0_ (drawFrom a0.toNat 0 a1.toNat a2) ∧ Below w.heap.size w w' := by
  obtain ⟨s, rfl⟩ : ∃ s : Nat, a1 = (s : Int) := Int.eq_ofNat_of_zero_le q0
  rw [Int.toNat_natCast] at n1 ⊢
  have o1 : outB 1 50 a0 = false := by simp [outB]; omega
  have o2 : outB 0 a0 s = false := by simp [outB]; omega
  have hc1 := fun W => within1 1 50 a0 W
  have hc2 := fun W => within1 0 a0 s W
  rw [o1] at hc1
  rw [o2] at hc2
  have hbz := binom_le50 a0.toNat s (by omega)
  obtain ⟨z, hz⟩ : ∃ z : Nat, z = binom a0.toNat s := ⟨_, rfl⟩
  rw [← hz] at hbz n1
  have hix : ∀ w', (Instr.index 82 (.agg (cellsOf (rowF a0.toNat))) (.int .i64 (s : Int))).run Try.prog w' = .ok (.int .i64 z) w' := fun w' => by
    rw [hz]; exact run_index_agg w' row_under row_key row_cells (by omega) (cellsOf_get _ _ (by omega))
  have HC1 := Lib.hid hc1
  have HC2 := Lib.hid hc2
  have HZ := Lib.hid hz
  clear hc1 hc2 o1 o2 hz
  have hn0 : decide (a2 < 0) = false := by simp; omega
  have hn1 : decide ((z : Int) ≤ a2) = false := by simp; omega
  go_enter Try.func26, Try.ntmps26
  go_wp2
  go_step3
  go_wp2_with fail
  refine (HC1.out _).mono ?_
  rintro e w1 ⟨rfl, hb1⟩
  have HB1 := Lib.hid hb1
  clear hb1
  go_wp2_with fail
  refine (HC2.out _).mono ?_
  rintro e w2 ⟨rfl, hb2⟩
  have HB2 := Lib.hid (HB1.out.trans (hb2.mono HB1.out.size))
  clear hb2
  go_wp2_with fail
  refine (choices_int a0 (by omega) p1 _).mono ?_
  rintro e w3 ⟨rfl, hb3⟩
  have HB3 := Lib.hid (HB2.out.trans (hb3.mono HB2.out.size))
  clear hb3
  go_wp2
  go_step3
  go_wp2
  go_loopw [2, 8, 9, 10] (fun num v lg lf wr => ∃ (n : Nat) (log : Int) (left : Nat) (nm : Int) (ao : Option Addr) (cap : Nat) (pre : List Int), num = .int .i64 nm ∧ v = .slice ao pre.length cap ∧ lg = .int .i64 log ∧ lf = .int .i64 (left : Int) ∧
      0 ≤ log ∧ 0 ≤ nm ∧ nm ≤ 1125899906842624 ∧ pre.length ≤ cap ∧ pre.length ≤ 50 ∧ Hid (log + n = a0 ∧ left ≤ n ∧ pre.length + left = s ∧ nm < binom n left ∧ (ao = none → pre.length = 0 ∧ cap = 0) ∧ ReadsInt wr .i64 ao pre.length pre ∧ pre ++ drawFrom n log left nm = drawFrom a0.toNat 0 s a2 ∧ Below w.heap.size w wr)) (fun _ _ lg _ _ => 60 - (intOf lg).toNat)
  case atStart => exact ⟨a0.toNat, 0, s, a2, none, 0, [], rfl, rfl, rfl, rfl, by omega, n0, by omega, Nat.le_refl _, by simp, by omega, by omega, by simp, by rw [← HZ.out]; exact n1, fun _ => ⟨rfl, rfl⟩, ReadsInt.nil _ _, rfl, HB3.out⟩
  case round =>
    obtain ⟨n, log, left, nm, ao, cap, pre, rfl, rfl, rfl, rfl, hl0, hm0, hm1, hpc, hp50, HI⟩ := hrel
    have hI := HI.out
    by_cases hz0 : left = 0
    · have hl : ¬ (0 : Int) < (left : Int) := by omega
      have hl2 : (left : Int) ≤ 0 := by omega
      have HZ0 := Lib.hid hz0
      clear hI hz0
      obtain ⟨i0, hi, hz0, hz1, hz2⟩ := info_parts infoInt
      have hle := HI.out.2.2.2.2.2.2.2.size
      have hsz1 : (Try.prog.info? 3).map (·.size) = some 1 := by rw [hi]; exact congrArg some hz1
      have HSZ1 := Lib.hid hsz1
      clear hsz1
      go_wp2_with (first
        | (at_make; refine wpList_make_full _ rfl _ _ 32 rfl w.heap.size 3 i0 (.int .i64 0) 1 Try.underlying32 hi hz0 hz1 .i64 .i64 _ _ pre.length rfl rfl rfl rfl (by rw [hz2]; omega) (by unfold maxLen; omega) hle ?_; intro w6 hown6 hgrow6; obtain ⟨cur, hcur, hcl⟩ := own_block hown6; have HG6 := Lib.hid hgrow6; have HC6 := Lib.hid hcur; have HRD := Lib.hid (HI.out.2.2.2.2.2.1.below (below_of_grown hgrow6)); have HB6 := Lib.hid (HI.out.2.2.2.2.2.2.2.grown hgrow6 hle (fun j e => by cases e)); clear hown6 hgrow6 hcur)
        | ((with_reducible refine wpList_copy_splice (o := ⟨some 71, _, _, _, _, _⟩) ?_ (.tmp 69) (.tmp 70) 32 32 ?_ 3 Try.underlying32 HSZ1.out (some ⟨wr.heap.size, 0, none⟩) ao pre.length pre.length pre.length cap ?_ ?_ wr.heap.size 0 cur.toList 3 ?_ (nums .i64 pre) ?_ ?_ ?_ ?_ w.heap.size w HB6.out hle ?_); rfl; rfl; (repeat rfl); (exact HC6.out); (exact nums_min _ _); (exact fun hp => ⟨rfl, reads_some HRD.out (by simpa [nums] using hp)⟩); (simp [nums]; omega); (exact nums_one _ _); intro w7 hw7 hb7; have H7 := Lib.hid (And.intro hw7 hb7); clear hw7 hb7))
      have hfin : drawFrom a0.toNat 0 s a2 = pre := by
        have := HI.out.2.2.2.2.2.2.1
        rw [HZ0.out, drawFrom_none, List.append_nil] at this
        exact this.symm
      have HFIN := Lib.hid hfin
      clear hfin
      go_ret2
      exact ⟨_, rfl, by rw [HFIN.out]; exact own_copied H7.out.1 (by rw [Array.length_toList, hcl, Nat.mul_one]) hle (by unfold maxLen; omega), H7.out.2⟩
    · obtain ⟨n, rfl⟩ : ∃ n', n = n' + 1 := ⟨n - 1, by omega⟩
      have hl : (0 : Int) < (left : Int) := by omega
      have hlog : log ≤ 49 := by omega
      have hl50 : left ≤ 50 := by omega
      have hbx := binom_le50 n (left - 1) (by omega)
      obtain ⟨x, hx⟩ : ∃ x : Nat, x = binom n (left - 1) := ⟨_, rfl⟩
      rw [← hx] at hbx
      have hlen : log + (n : Int) + 1 = a0 := by omega
      have hpas : binom (n + 1) left = x + binom n left := by
        obtain ⟨l, rfl⟩ : ∃ l, left = l + 1 := ⟨left - 1, by omega⟩
        rw [hx, binom_succ, Nat.add_sub_cancel]
      have hch := choices_int (a0 - log - 1) (by omega) (by omega)
      rw [show (a0 - log - 1).toNat = n by omega] at hch
      have hix2 : ∀ w', (Instr.index 82 (.agg (cellsOf (rowF n))) (.int .i64 ((left : Int) - 1))).run Try.prog w' = .ok (.int .i64 x) w' := fun w' => by
        rw [hx, show ((left : Int) - 1) = ((left - 1 : Nat) : Int) by omega]; exact run_index_agg w' row_under row_key row_cells (by omega) (cellsOf_get _ _ (by omega))
      have HCH := Lib.hid hch
      have HX := Lib.hid (And.intro hx hpas)
      have HLEN := Lib.hid hlen
      have HZ0 := Lib.hid hz0
      clear hch hx hI hix hpas hz0
      by_cases hsk : (x : Int) ≤ nm
      · have hdr := drawFrom_skip (n := n) (left := left) (log := log) (num := nm) (by omega) (by rw [← HX.out.1]; exact hsk)
        rw [← HX.out.1] at hdr
        have HDR := Lib.hid hdr
        clear hdr hlen
        go_wp2_with fail
        refine (HCH.out _).mono ?_
        rintro e w4 ⟨rfl, hb4⟩
        have HB4 := Lib.hid hb4
        clear hb4
        go_wp2
        go_roundw
        case rel => exact ⟨n, log + 1, left, nm - x, ao, cap, pre, rfl, rfl, rfl, rfl, by omega, by omega, by omega, hpc, hp50, Lib.hid (by
          obtain ⟨i1, i2, i3, i4, i5, i6, i7, i8⟩ := HI.out
          obtain ⟨x1, x2⟩ := HX.out
          rw [x2] at i4
          refine ⟨by have := HLEN.out; omega, ?_, i3, by omega, i5, i6.below (HB4.out.mono (Nat.le_refl _)), by rw [← HDR.out]; exact i7, i8.trans (HB4.out.mono i8.size)⟩
          apply Decidable.byContradiction
          intro hc
          rw [binom_gt n left (by omega)] at i4
          omega)⟩
        case measure => simp [intOf]; omega
      · have hdr := drawFrom_take (n := n) (left := left) (log := log) (num := nm) (by omega) (by rw [← HX.out.1]; omega)
        have HDR := Lib.hid hdr
        clear hdr hlen
        have hsk' : decide ((x : Int) ≤ nm) = false := by simp; omega
        obtain ⟨i0, hi, hz0, hz1, hz2⟩ := info_parts infoInt
        go_wp2_with fail
        refine (HCH.out _).mono ?_
        rintro e w4 ⟨rfl, hb4⟩
        have HB4 := Lib.hid hb4
        clear hb4
        have hcut := fun W => run_cut3 (P := Try.prog) W 32 3 Try.underlying32 hi ao pre.length cap hpc
        have hread := HI.out.2.2.2.2.2.1.below (HB4.out.mono (Nat.le_refl _))
        have hread1 := hread.allocS (.cells #[.int .i64 log] 3)
        have HRD := Lib.hid hread1
        clear hread hread1
        go_wp2_with (first | (at_builtin; refine wpList_append_grows _ rfl _ _ 32 rfl 3 i0 (.int .i64 0) 1 8 Try.underlying32 hi hz0 hz1 hz2 rfl (by decide) ao pre.length pre.length (nums .i64 pre) rfl (fun e => ⟨(HI.out.2.2.2.2.1 e).1, (HI.out.2.2.2.2.1 e).1⟩) (by simp [nums]) (fun b e => reads_cells HRD.out b e) ⟨w4.heap.size, 0, none⟩ 1 1 [.int .i64 log] rfl rfl (cell_one_new _ _ _) (by simp [Value.oneCell']) (by omega) (by unfold maxLen; omega) (by omega) ?_; intro v5 w5 hown5 hgrow5; have H5 := Lib.hid (And.intro hown5 hgrow5); clear hown5 hgrow5))
        have hown := H5.out.1
        rw [show nums .i64 pre ++ [Value.int .i64 log] = nums .i64 (pre ++ [log]) by simp [nums]] at hown
        obtain ⟨A, c, rfl, hlc, hnc, hrc⟩ := own_out hown
        have hl1 : (pre ++ [log]).length = pre.length + 1 := by simp
        go_roundw
        case rel => exact ⟨n, log + 1, left - 1, nm, A, c, pre ++ [log], rfl, rfl, rfl, congrArg (Value.int .i64) (by omega), by omega, by omega, by omega, hlc, by have := HI.out.2.2.1; omega, Lib.hid (by
          obtain ⟨i1, i2, i3, i4, i5, i6, i7, i8⟩ := HI.out
          obtain ⟨x1, x2⟩ := HX.out
          refine ⟨by have := HLEN.out; omega, by omega, by omega, by omega, hnc, hrc, ?_, ?_⟩
          · rw [← i7, HDR.out]; simp
          · exact ((i8.trans (HB4.out.mono i8.size)).alloc (by have := i8.size; have := HB4.out.size; omega) _).grown H5.out.2 (by have := i8.size; have := HB4.out.size; simp; omega) (fun j e => by cases e))⟩
        case measure => simp [intOf]; omega

set_option maxHeartbeats 4000000 in
set_option maxRecDepth 100000 in
theorem draw_bad (a0 a1 a2 : Int) (hb : (outB 1 50 a0 || outB 0 a0 a1) = true) (w : World) :
    Calls Try.prog 26 #[.int .i64 a0, .int .i64 a1, .int .i64 a2] w fun e w' => e = .returned (.tuple #[.slice none 0 0, .int .i64 3]) ∧ Below w.heap.size w w' := by
  have hc1 := fun W => within1 1 50 a0 W
  have hc2 := fun W => within1 0 a0 a1 W
  cases h1 : outB 1 50 a0
  · have h2 : outB 0 a0 a1 = true := by simpa [h1] using hb
    rw [h1] at hc1
    rw [h2] at hc2
    have HC1 := Lib.hid hc1
    have HC2 := Lib.hid hc2
    clear hc1 hc2 h1 h2 hb
    go_enter Try.func26, Try.ntmps26
    go_wp2
    go_step3
    go_wp2_with fail
    refine (HC1.out _).mono ?_
    rintro e w1 ⟨rfl, hb1⟩
    have HB1 := Lib.hid hb1
    clear hb1
    go_wp2_with fail
    refine (HC2.out _).mono ?_
    rintro e w2 ⟨rfl, hb2⟩
    have HB2 := Lib.hid (HB1.out.trans (hb2.mono HB1.out.size))
    clear hb2
    go_wp2
    rw [Exit.noGoto_ret]
    go_ret2
    exact ⟨rfl, HB2.out⟩
  · rw [h1] at hc1
    have HC1 := Lib.hid hc1
    clear hc1 hc2 h1 hb
    go_enter Try.func26, Try.ntmps26
    go_wp2
    go_step3
    go_wp2_with fail
    refine (HC1.out _).mono ?_
    rintro e w1 ⟨rfl, hb1⟩
    have HB1 := Lib.hid hb1
    clear hb1
    go_wp2
    rw [Exit.noGoto_ret]
    go_ret2
    exact ⟨rfl, HB1.out⟩

set_option maxHeartbeats 4000000 in
set_option maxRecDepth 100000 in
theorem draw_none (a0 a1 a2 : Int) (hb : (outB 1 50 a0 || outB 0 a0 a1) = false) (hn : a2 < 0 ∨ (binom a0.toNat a1.toNat : Int) ≤ a2) (w : World) :
    Calls Try.prog 26 #[.int .i64 a0, .int .i64 a1, .int .i64 a2] w fun e w' => e = .returned (.tuple #[.slice none 0 0, .int .i64 5]) ∧ Below w.heap.size w w' := by
  obtain ⟨h1, h2⟩ := Bool.or_eq_false_iff.1 hb
  obtain ⟨p0, p1⟩ := out_in h1
  obtain ⟨q0, q1⟩ := out_in h2
  have hc1 := fun W => within1 1 50 a0 W
  have hc2 := fun W => within1 0 a0 a1 W
  rw [h1] at hc1
  rw [h2] at hc2
  have HC1 := Lib.hid hc1
  have HC2 := Lib.hid hc2
  obtain ⟨z, hz⟩ : ∃ z : Nat, z = binom a0.toNat a1.toNat := ⟨_, rfl⟩
  rw [← hz] at hn
  have hix : ∀ w', (Instr.index 82 (.agg (cellsOf (rowF a0.toNat))) (.int .i64 a1)).run Try.prog w' = .ok (.int .i64 z) w' := fun w' => by
    obtain ⟨s, rfl⟩ := Int.eq_ofNat_of_zero_le q0
    rw [hz]; exact run_index_agg w' row_under row_key row_cells (by omega) (cellsOf_get _ _ (by omega))
  clear hc1 hc2 h1 h2 hb hz
  by_cases h0 : a2 < 0
  · have hd : decide (a2 < 0) = true := decide_eq_true h0
    go_enter Try.func26, Try.ntmps26
    go_wp2
    go_step3
    go_wp2_with fail
    refine (HC1.out _).mono ?_
    rintro e w1 ⟨rfl, hb1⟩
    have HB1 := Lib.hid hb1
    clear hb1
    go_wp2_with fail
    refine (HC2.out _).mono ?_
    rintro e w2 ⟨rfl, hb2⟩
    have HB2 := Lib.hid (HB1.out.trans (hb2.mono HB1.out.size))
    clear hb2
    go_wp2
    rw [Exit.noGoto_ret]
    go_ret2
    exact ⟨rfl, HB2.out⟩
  · have hd : decide (a2 < 0) = false := decide_eq_false h0
    have hz1 : (z : Int) ≤ a2 := by omega
    have hd2 : decide ((z : Int) ≤ a2) = true := decide_eq_true hz1
    go_enter Try.func26, Try.ntmps26
    go_wp2
    go_step3
    go_wp2_with fail
    refine (HC1.out _).mono ?_
    rintro e w1 ⟨rfl, hb1⟩
    have HB1 := Lib.hid hb1
    clear hb1
    go_wp2_with fail
    refine (HC2.out _).mono ?_
    rintro e w2 ⟨rfl, hb2⟩
    have HB2 := Lib.hid (HB1.out.trans (hb2.mono HB1.out.size))
    clear hb2
    go_wp2_with fail
    refine (choices_int a0 (by omega) p1 _).mono ?_
    rintro e w3 ⟨rfl, hb3⟩
    have HB3 := Lib.hid (HB2.out.trans (hb3.mono HB2.out.size))
    clear hb3
    go_wp2
    rw [Exit.noGoto_ret]
    go_ret2
    exact ⟨rfl, HB3.out⟩

theorem check_Draw.calls (a0 a1 a2 : Int) (r1 : List Int) (r2 : Int) (w : World) (h : check_Draw.f a0 a1 a2 = some (r1, r2)) :
    Calls Try.prog 26 #[.int .i64 a0, .int .i64 a1, .int .i64 a2] w fun e w' => ∃ v0_ : Value, e = .returned (.tuple #[v0_, .int .i64 r2]) ∧ Kd.R (Kd.int .i64) 3 w' w.heap.size (fun _ => True) v0_ r1 ∧ Below w.heap.size w w' := by
  have h := Option.some.inj h
  cases hb : outB 1 50 a0 || outB 0 a0 a1
  · rw [hb, if_neg (by simp)] at h
    by_cases hn : a2 < 0 ∨ (binom a0.toNat a1.toNat : Int) ≤ a2
    · rw [if_pos hn] at h
      obtain ⟨rfl, rfl⟩ := Prod.mk.inj h
      exact (draw_none a0 a1 a2 hb hn w).mono fun e w' ⟨he, hw⟩ => ⟨_, he, Kd.R_nil _ _ _ _ _, hw⟩
    · rw [if_neg hn] at h
      obtain ⟨rfl, rfl⟩ := Prod.mk.inj h
      obtain ⟨h1, h2⟩ := Bool.or_eq_false_iff.1 hb
      obtain ⟨p0, p1⟩ := out_in h1
      obtain ⟨q0, q1⟩ := out_in h2
      exact draw_good a0 a1 a2 p0 p1 q0 q1 (by omega) (by omega) w
  · rw [hb, if_pos rfl] at h
    obtain ⟨rfl, rfl⟩ := Prod.mk.inj h
    exact (draw_bad a0 a1 a2 hb w).mono fun e w' ⟨he, hw⟩ => ⟨_, he, Kd.R_nil _ _ _ _ _, hw⟩
end Go.Proofs.Ytmgdidhhgdpobaa.Hand

/- A region that draws its order, whose operations read cells that stay, and whose callees make memory: one walk in the order of the text. -/
namespace Go.Proofs.Ytmgdidhhgdpobaa.Hand
set_option linter.unusedVariables false
set_option linter.unusedSimpArgs false
open Go.RowKit

/-- the worlds in which all below a number is as in one world -/
def Kw (n : Nat) (w : World) : Type := {v : World // Below n w v}

instance (n : Nat) (w : World) : Nonempty (Kw n w) := ⟨⟨w, Below.refl n w⟩⟩

theorem wp_region_kept {P : Program} {id : Nat} {Q : Exit → Act → World → Prop} {a : Act} {w : World} {l : List Oper} (n : Nat) (w0 : World) (hm : P.follows .mixedOrders = true) (hB : Region.lexB .any l.toArray = true) (hb : Below n w0 w)
    (h : wpQuiet P l.toArray (fun w' => ∃ x : Kw n w0, w' = x.1) (fun a' => ∀ w', (∃ x : Kw n w0, w' = x.1) → Q .normal a' w') l a) : (Code.region id l.toArray true).wp P Q a w :=
  wp_region_quiet (C := fun w' => ∃ x : Kw n w0, w' = x.1) hm hB ⟨⟨_, hb.drew⟩, rfl⟩ (by simpa using h)

theorem kept_calls {P : Program} {n : Nat} {w0 : World} {f : FuncId} {args : Array Value} {v : Value} (x : Kw n w0) (hn : n ≤ w0.heap.size)
    (h : Calls P f args x.1 fun e w' => e = .returned v ∧ Below x.1.heap.size x.1 w') : Calls P f args x.1 fun e w'' => e = .returned v ∧ ∃ y : Kw n w0, w'' = y.1 :=
  h.mono fun _ w' ⟨h1, h2⟩ => ⟨h1, ⟨⟨w', x.2.trans (h2.mono (Nat.le_trans hn x.2.size))⟩, rfl⟩⟩

theorem kept_cell {n : Nat} {w0 : World} {p : Addr} {v : Value} (hp : p.block < n) (h : w0.cell? p = some v) : ∀ x : Kw n w0, x.1.cell? p = some v :=
  fun x => by rw [x.2.cell hp]; exact h
theorem cell_size {w : World} {p : Addr} {v : Value} (h : w.cell? p = some v) : p.block < w.heap.size := by
  rcases Nat.lt_or_ge p.block w.heap.size with g | g
  · exact g
  · exfalso; simp [World.cell?, Array.getElem?_eq_none g] at h
theorem kept_cell' {w0 : World} {p : Addr} {v : Value} (h : w0.cell? p = some v) : ∀ x : Kw w0.heap.size w0, x.1.cell? p = some v := kept_cell (cell_size h) h
end Go.Proofs.Ytmgdidhhgdpobaa.Hand

/- The bench of a test: open, sides, right come to plain numbers. -/
namespace Go.Proofs.Ytmgdidhhgdpobaa.Hand
set_option linter.unusedVariables false
set_option linter.unusedSimpArgs false
open Go.RowKit Go.Maps Go.Proofs.YtmgdidhhgdpobaaW.PrintWords Go.Proofs.YtmgdidhhgdpobaaW.PrintLast Go.Proofs.YtmgdidhhgdpobaaW.PrintMore Go.Proofs.Ytmgdidhhgdpobaa.PrA

/-- a bench lies in a block -/
def BenchAt (w : World) (b : Nat) (a0 a1 a2 a3 a4 a5 a6 : Int) : Prop :=
  w.cell? ⟨b, 0, none⟩ = some (.int .i64 a0) ∧ w.cell? ⟨b, 1, none⟩ = some (.int .i64 a1) ∧ w.cell? ⟨b, 2, none⟩ = some (.int .i64 a2) ∧ w.cell? ⟨b, 3, none⟩ = some (.int .i64 a3) ∧ w.cell? ⟨b, 4, none⟩ = some (.int .i64 a4) ∧ w.cell? ⟨b, 5, none⟩ = some (.int .i64 a5) ∧ w.cell? ⟨b, 6, none⟩ = some (.int .i64 a6)

/-- with how many samples a good scaler does not pass -/
def goodN (a0 a1 p0 p1 : Int) : Int := (binom a0.toNat p0.toNat : Int) - uptoN a0 a1 p0 p1

theorem bench_below {w w' : World} {b : Nat} {a0 a1 a2 a3 a4 a5 a6 : Int} (h : BenchAt w b a0 a1 a2 a3 a4 a5 a6) {n : Nat} (hb : Below n w w') (hn : b < n) : BenchAt w' b a0 a1 a2 a3 a4 a5 a6 := by
  obtain ⟨h0, h1, h2, h3, h4, h5, h6⟩ := h
  refine ⟨?_, ?_, ?_, ?_, ?_, ?_, ?_⟩ <;> (rw [hb.cell (by exact hn)]; assumption)

set_option maxHeartbeats 4000000 in
theorem sides_any (b : Nat) (a0 a1 a2 a3 a4 a5 a6 p0 p1 : Int) (w : World) (hB : BenchAt w b a0 a1 a2 a3 a4 a5 a6) (ha : a0 ≤ 50) (h1 : 0 ≤ a1) (h2 : a1 ≤ a0) (h3 : 0 ≤ a2) (h4 : a2 ≤ a0) (h5 : 0 ≤ p0) (h6 : p0 ≤ a0) (h7 : 0 ≤ p1) (h8 : p1 ≤ p0) :
    Calls Try.prog 73 #[.pointer (some ⟨b, 0, none⟩), .agg #[.int .i64 p0, .int .i64 p1]] w
      fun e w' => e = .returned (.tuple #[.int .i64 (goodN a0 a1 p0 p1), .int .i64 (uptoN a0 a2 p0 p1)]) ∧ Below w.heap.size w w' := by
  have hs := cell_size hB.1
  obtain ⟨W, hW⟩ : ∃ W, W = w.alloc (.cells #[.int .i64 p0, .int .i64 p1] 48) := ⟨_, rfl⟩
  have hbl : Below w.heap.size w W := by rw [hW]; exact (Below.refl w.heap.size w).alloc (Nat.le_refl _) _
  obtain ⟨d0, d1, d2, -, -, -, -⟩ := bench_below hB hbl hs
  have d3 : W.cell? ⟨w.heap.size, 0, none⟩ = some (.int .i64 p0) := by rw [hW]; simp
  have d4 : W.cell? ⟨w.heap.size, 1, none⟩ = some (.int .i64 p1) := by rw [hW]; simp
  have c0 := kept_cell' d0
  have c1 := kept_cell' d1
  have c2 := kept_cell' d2
  have c3 := kept_cell' d3
  have c4 := kept_cell' d4
  clear d0 d1 d2 d3 d4
  have HBL := Lib.hid hbl
  clear hbl
  have hix : ∀ w', (Instr.index 82 (.agg (cellsOf (rowF a0.toNat))) (.int .i64 p0)).run Try.prog w' = .ok (.int .i64 (binom a0.toNat p0.toNat)) w' := fun w' => by
    obtain ⟨q, rfl⟩ := Int.eq_ofNat_of_zero_le h5
    exact run_index_agg w' row_under row_key row_cells (by omega) (cellsOf_get _ _ (by omega))
  have hul := uptoN_le h1 h2 h7 h8
  have hun := uptoN_nat a0 a1 p0 p1
  have hbb := binom_le50 a0.toNat p0.toNat (by omega)
  have hsub : IntKind.i64.wrap ((binom a0.toNat p0.toNat : Int) - uptoN a0 a1 p0 p1) = goodN a0 a1 p0 p1 := IntWalk.i64_in _ (by omega)
  have hk1 := fun W => choices_int a0 (by omega) ha W
  have hk2 := fun W => upTo_int a0 a1 p0 p1 ha h1 h2 (by omega) h7 h8 W
  have hk3 := fun W => upTo_int a0 a2 p0 p1 ha h3 h4 (by omega) h7 h8 W
  have K1 := Lib.hid hk1
  have K2 := Lib.hid hk2
  have K3 := Lib.hid hk3
  clear hul hun hbb hk1 hk2 hk3
  clear hB hs h1 h2 h3 h4 h5 h6 h7 h8 ha
  go_enter Try.func73, Try.ntmps73
  go_wp2_with fail
  rw [← hW]
  clear hW
  refine wp_region_kept W.heap.size W (by kernel_rfl) (by kernel_rfl) (Below.refl _ _) ?_
  repeat (go_big_quiet_step (first | with_reducible exact kept_calls _ (Nat.le_refl _) (K1.out _) | with_reducible exact kept_calls _ (Nat.le_refl _) (K2.out _) | with_reducible exact kept_calls _ (Nat.le_refl _) (K3.out _)))
  refine wpQuiet_nil ?_
  rintro _ ⟨X, rfl⟩
  go_wp2
  go_ret2
  exact ⟨rfl, HBL.out.trans (X.2.mono HBL.out.size)⟩

/-- is a plan right? -/
def rareB (n m num den : Int) : Bool := decide (wrap64 (n * den) ≤ wrap64 (m * num))
def rightB (a0 a1 a2 a3 a4 a5 a6 p0 p1 : Int) : Bool := rareB (goodN a0 a1 p0 p1) (binom a0.toNat p0.toNat) a3 a4 && rareB (uptoN a0 a2 p0 p1) (binom a0.toNat p0.toNat) a5 a6

theorem rare_int (n m num den : Int) (W : World) : Calls Try.prog 68 #[.int .i64 n, .int .i64 m, .agg #[.int .i64 num, .int .i64 den]] W fun e W' => e = .returned (.bool (rareB n m num den)) ∧ Below W.heap.size W W' :=
  check_rare.calls n m num den _ W rfl

set_option maxHeartbeats 4000000 in
theorem right_any (b : Nat) (a0 a1 a2 a3 a4 a5 a6 p0 p1 : Int) (w : World) (hB : BenchAt w b a0 a1 a2 a3 a4 a5 a6) (ha : a0 ≤ 50) (h1 : 0 ≤ a1) (h2 : a1 ≤ a0) (h3 : 0 ≤ a2) (h4 : a2 ≤ a0) (h5 : 0 ≤ p0) (h6 : p0 ≤ a0) (h7 : 0 ≤ p1) (h8 : p1 ≤ p0) :
    Calls Try.prog 74 #[.pointer (some ⟨b, 0, none⟩), .agg #[.int .i64 p0, .int .i64 p1]] w
      fun e w' => e = .returned (.bool (rightB a0 a1 a2 a3 a4 a5 a6 p0 p1)) ∧ Below w.heap.size w w' := by
  have hs := cell_size hB.1
  obtain ⟨W, hW⟩ : ∃ W, W = w.alloc (.cells #[.int .i64 p0, .int .i64 p1] 48) := ⟨_, rfl⟩
  have hbl : Below w.heap.size w W := by rw [hW]; exact (Below.refl w.heap.size w).alloc (Nat.le_refl _) _
  have hB1 := bench_below hB hbl hs
  have d3 : W.cell? ⟨w.heap.size, 0, none⟩ = some (.int .i64 p0) := by rw [hW]; simp
  have d4 : W.cell? ⟨w.heap.size, 1, none⟩ = some (.int .i64 p1) := by rw [hW]; simp
  have HB1 := Lib.hid hB1
  have HBL := Lib.hid hbl
  have hs1 := cell_size hB1.1
  have hc := sides_any b a0 a1 a2 a3 a4 a5 a6 p0 p1 W hB1 ha h1 h2 h3 h4 h5 h6 h7 h8
  have HC := Lib.hid hc
  have hix : ∀ w', (Instr.index 82 (.agg (cellsOf (rowF a0.toNat))) (.int .i64 p0)).run Try.prog w' = .ok (.int .i64 (binom a0.toNat p0.toNat)) w' := fun w' => by
    obtain ⟨q, rfl⟩ := Int.eq_ofNat_of_zero_le h5
    exact run_index_agg w' row_under row_key row_cells (by omega) (cellsOf_get _ _ (by omega))
  have hk1 := fun W => choices_int a0 (by omega) ha W
  have K1 := Lib.hid hk1
  clear hk1 hB hB1 hbl hc h1 h2 h3 h4 h5 h6 h7 h8 ha
  go_enter Try.func74, Try.ntmps74
  go_wp2_with fail
  rw [← hW]
  clear hW
  refine HC.out.mono ?_
  rintro e w1 ⟨rfl, hb1⟩
  obtain ⟨c0, c1, c2, c3, c4, c5, c6⟩ := bench_below HB1.out hb1 hs1
  have d5 : w1.cell? ⟨w.heap.size, 0, none⟩ = some (.int .i64 p0) := by rw [hb1.cell (cell_size d3)]; exact d3
  have HB2 := Lib.hid (And.intro (HBL.out.trans (hb1.mono HBL.out.size)) (Nat.le_trans HBL.out.size hb1.size))
  have k0 := kept_cell' c0
  have k5 := kept_cell' d5
  have KK := Lib.hid (And.intro c3 (And.intro c4 (And.intro c5 c6)))
  clear hb1 d3 d4 d5 c0 c1 c2 c3 c4 c5 c6 hs1
  go_wp2_with fail
  refine wp_region_kept w1.heap.size w1 (by kernel_rfl) (by kernel_rfl) (Below.refl _ _) ?_
  repeat (go_big_quiet_step (with_reducible exact kept_calls _ (Nat.le_refl _) (K1.out _)))
  refine wpQuiet_nil ?_
  rintro _ ⟨X, rfl⟩
  obtain ⟨c3, c4, c5, c6⟩ := KK.out
  have c3 := kept_cell' c3 X
  have c4 := kept_cell' c4 X
  have hu27 := Try.underlying27
  have hx1 := kept_cell' c5 X
  have hx2 := kept_cell' c6 X
  have HX := Lib.hid (And.intro hx1 hx2)
  have HR := fun n m num den W => rare_int n m num den W
  have HR := Lib.hid HR
  have HE : Hid (rightB a0 a1 a2 a3 a4 a5 a6 p0 p1 = (rareB (goodN a0 a1 p0 p1) (binom a0.toNat p0.toNat) a3 a4 && rareB (uptoN a0 a2 p0 p1) (binom a0.toNat p0.toNat) a5 a6)) := Lib.hid rfl
  clear k0 k5 KK hx1 hx2 c5 c6 hix
  cases hb : rareB (goodN a0 a1 p0 p1) (binom a0.toNat p0.toNat) a3 a4
  · have HE' := Lib.hid (HE.out.trans (by rw [hb]; rfl : _ = false))
    have HQ := Lib.hid hb
    clear hb HE
    go_wp2_with fail
    refine (HR.out _ _ _ _ _).mono ?_
    rintro e w2 ⟨rfl, hb2⟩
    rw [HQ.out]
    have HB3 := Lib.hid hb2
    clear hb2
    go_wp2
    go_ret
    refine ⟨by rw [HE'.out]; rfl, HB2.out.1.trans ((X.2.mono HB2.out.2).trans (HB3.out.mono (Nat.le_trans HB2.out.2 X.2.size)))⟩
  · have HE' := Lib.hid (HE.out.trans (by rw [hb, Bool.true_and] : _ = rareB (uptoN a0 a2 p0 p1) (binom a0.toNat p0.toNat) a5 a6))
    have HQ := Lib.hid hb
    clear hb HE
    go_wp2_with fail
    refine (HR.out _ _ _ _ _).mono ?_
    rintro e w2 ⟨rfl, hb2⟩
    rw [HQ.out]
    have c5 : w2.cell? ⟨b, 5, none⟩ = some (.int .i64 a5) := by rw [hb2.cell (cell_size HX.out.1)]; exact HX.out.1
    have c6 : w2.cell? ⟨b, 6, none⟩ = some (.int .i64 a6) := by rw [hb2.cell (cell_size HX.out.2)]; exact HX.out.2
    have HB3 := Lib.hid hb2
    clear hb2
    go_wp2_with fail
    refine (HR.out _ _ _ _ _).mono ?_
    rintro e w3 ⟨rfl, hb3⟩
    have HB4 := Lib.hid hb3
    clear hb3
    go_wp2
    go_ret
    refine ⟨by rw [HE'.out]; rfl, HB2.out.1.trans ((X.2.mono HB2.out.2).trans ((HB3.out.mono (Nat.le_trans HB2.out.2 X.2.size)).trans (HB4.out.mono (Nat.le_trans (Nat.le_trans HB2.out.2 X.2.size) HB3.out.size))))⟩

/-- is a fraction a risk? -/
def riskOk (n d : Int) : Bool := decide (1 ≤ d ∧ d ≤ 1000 ∧ 0 ≤ n ∧ n ≤ (d - 1) / 2)
/-- what CheckTest comes to -/
def testN (a0 a1 a2 a3 a4 a5 a6 : Int) : Int := if 1 ≤ a0 ∧ a0 ≤ 50 ∧ 1 ≤ a2 ∧ a2 ≤ a0 ∧ 0 ≤ a1 ∧ a1 < a2 then (if riskOk a3 a4 && riskOk a5 a6 then 0 else 2) else 3
theorem wrap64_in {x : Int} (h : -9223372036854775808 ≤ x ∧ x ≤ 9223372036854775807) : wrap64 x = x := by unfold wrap64; omega
theorem isRisk_is (n d : Int) : check_isRisk.f n d = some (riskOk n d) := by
  unfold check_isRisk.f riskOk
  by_cases h1 : d ≥ 1
  · by_cases h2 : d ≤ 1000
    · by_cases h3 : n ≥ 0
      · rw [if_pos h1, if_pos h2, if_pos h3, wrap64_in (x := d - 1) (by omega), Int.tdiv_eq_ediv_of_nonneg (by omega), wrap64_in (by omega)]
        congr 1
        exact decide_eq_decide.2 ⟨fun h => ⟨h1, h2, h3, h⟩, fun h => h.2.2.2⟩
      · rw [if_pos h1, if_pos h2, if_neg h3]
        congr 1
        exact (decide_eq_false (by omega)).symm
    · rw [if_pos h1, if_neg h2]
      congr 1
      exact (decide_eq_false (by omega)).symm
  · rw [if_neg h1]
    congr 1
    exact (decide_eq_false (by omega)).symm
theorem within1_is (lo hi x : Int) : check_within.f lo hi [x] = some (decide (lo ≤ x ∧ x ≤ hi)) := by
  simp only [check_within.f, List.any_cons, List.any_nil, Bool.or_false, out_iff, Bool.not_not]
theorem checkTest_is (k : Nat) (a0 a1 a2 a3 a4 a5 a6 : Int) : check_CheckTest.f (k + 1) a0 a1 a2 a3 a4 a5 a6 = some (testN a0 a1 a2 a3 a4 a5 a6) := by
  unfold check_CheckTest.f check_CheckTest.j0 testN
  simp only [within1_is, isRisk_is, Option.bind_some]
  by_cases h1 : 1 ≤ a0 ∧ a0 ≤ 50
  · by_cases h2 : 1 ≤ a2 ∧ a2 ≤ a0
    · by_cases h3 : 0 ≤ a1 ∧ a1 ≤ a2 - 1
      · rw [wrap64_in (x := a2 - 1) (by omega), if_pos (show 1 ≤ a0 ∧ a0 ≤ 50 ∧ 1 ≤ a2 ∧ a2 ≤ a0 ∧ 0 ≤ a1 ∧ a1 < a2 by omega)]
        simp only [h1, h2, h3, and_self, decide_true, if_true, Bool.not_true, Bool.false_eq_true, if_false]
        cases riskOk a3 a4 <;> cases riskOk a5 a6 <;> rfl
      · rw [wrap64_in (x := a2 - 1) (by omega), if_neg (show ¬ (1 ≤ a0 ∧ a0 ≤ 50 ∧ 1 ≤ a2 ∧ a2 ≤ a0 ∧ 0 ≤ a1 ∧ a1 < a2) by omega)]
        simp only [h1, h2, h3, and_self, decide_true, decide_false, if_true, Bool.not_false]
    · rw [if_neg (show ¬ (1 ≤ a0 ∧ a0 ≤ 50 ∧ 1 ≤ a2 ∧ a2 ≤ a0 ∧ 0 ≤ a1 ∧ a1 < a2) by omega)]
      simp only [h1, h2, and_self, decide_true, decide_false, if_true, Bool.false_eq_true, if_false]
  · rw [if_neg (show ¬ (1 ≤ a0 ∧ a0 ≤ 50 ∧ 1 ≤ a2 ∧ a2 ≤ a0 ∧ 0 ≤ a1 ∧ a1 < a2) by omega)]
    simp only [h1, decide_false, Bool.false_eq_true, if_false, if_true]
theorem checkTest_int (a0 a1 a2 a3 a4 a5 a6 : Int) (w : World) : Calls Try.prog 37 #[.agg #[.int .i64 a0, .int .i64 a1, .int .i64 a2, .int .i64 a3, .int .i64 a4, .int .i64 a5, .int .i64 a6]] w
    fun e w' => e = .returned (.int .i64 (testN a0 a1 a2 a3 a4 a5 a6)) ∧ Below w.heap.size w w' :=
  check_CheckTest.calls 1 a0 a1 a2 a3 a4 a5 a6 _ w (checkTest_is 0 a0 a1 a2 a3 a4 a5 a6)
theorem test_in {a0 a1 a2 a3 a4 a5 a6 : Int} (h : testN a0 a1 a2 a3 a4 a5 a6 = 0) : 1 ≤ a0 ∧ a0 ≤ 50 ∧ 1 ≤ a2 ∧ a2 ≤ a0 ∧ 0 ≤ a1 ∧ a1 < a2 ∧ riskOk a3 a4 = true ∧ riskOk a5 a6 = true := by
  unfold testN at h
  split at h
  · rename_i g
    split at h
    · rename_i g'
      rw [Bool.and_eq_true] at g'
      exact ⟨g.1, g.2.1, g.2.2.1, g.2.2.2.1, g.2.2.2.2.1, g.2.2.2.2.2, g'.1, g'.2⟩
    · exact absurd h (by decide)
  · exact absurd h (by decide)

/-- are a plan's numbers as described? -/
def planOk (a0 p0 p1 : Int) : Bool := !outB 0 a0 p0 && !outB 0 p0 p1
/-- open's error -/
def openN (a0 a1 a2 a3 a4 a5 a6 p0 p1 : Int) : Int := if testN a0 a1 a2 a3 a4 a5 a6 = 0 then (if planOk a0 p0 p1 then 0 else 3) else testN a0 a1 a2 a3 a4 a5 a6

set_option maxHeartbeats 4000000 in
theorem open_test (a0 a1 a2 a3 a4 a5 a6 p0 p1 : Int) (w : World) (ht : testN a0 a1 a2 a3 a4 a5 a6 ≠ 0) :
    Calls Try.prog 72 #[.agg #[.int .i64 a0, .int .i64 a1, .int .i64 a2, .int .i64 a3, .int .i64 a4, .int .i64 a5, .int .i64 a6], .agg #[.int .i64 p0, .int .i64 p1]] w
      fun e w' => e = .returned (.tuple #[.pointer none, .int .i64 (testN a0 a1 a2 a3 a4 a5 a6)]) ∧ Below w.heap.size w w' := by
  have hc := fun W => checkTest_int a0 a1 a2 a3 a4 a5 a6 W
  have HC := Lib.hid hc
  clear hc
  obtain ⟨t, htt⟩ : ∃ t, t = testN a0 a1 a2 a3 a4 a5 a6 := ⟨_, rfl⟩
  rw [← htt] at ht HC ⊢
  clear htt
  have hb1 : (t != 0) = true := bne_iff_ne.2 ht
  clear ht
  go_enter Try.func72, Try.ntmps72
  go_wp2_with fail
  refine (HC.out _).mono ?_
  rintro e w1 ⟨rfl, hw1⟩
  have HW1 := Lib.hid hw1
  clear hw1
  go_wp2
  go_ret2
  exact ⟨rfl, (((Below.refl _ _).alloc (Nat.le_refl _) _).alloc (by simp) _).trans (HW1.out.mono (by simp; omega))⟩

theorem plan_in {a0 p0 p1 : Int} (h : planOk a0 p0 p1 = true) : 0 ≤ p0 ∧ p0 ≤ a0 ∧ 0 ≤ p1 ∧ p1 ≤ p0 := by
  simp only [planOk, Bool.and_eq_true, Bool.not_eq_true'] at h
  obtain ⟨h1, h2⟩ := h
  have := out_in h1; have := out_in h2; omega

set_option maxHeartbeats 4000000 in
theorem open_plan (a0 a1 a2 a3 a4 a5 a6 p0 p1 : Int) (w : World) (ht : testN a0 a1 a2 a3 a4 a5 a6 = 0) (hp : planOk a0 p0 p1 = false) :
    Calls Try.prog 72 #[.agg #[.int .i64 a0, .int .i64 a1, .int .i64 a2, .int .i64 a3, .int .i64 a4, .int .i64 a5, .int .i64 a6], .agg #[.int .i64 p0, .int .i64 p1]] w
      fun e w' => e = .returned (.tuple #[.pointer none, .int .i64 3]) ∧ Below w.heap.size w w' := by
  have hc := fun W => checkTest_int a0 a1 a2 a3 a4 a5 a6 W
  rw [ht] at hc
  have HC := Lib.hid hc
  clear hc ht
  obtain ⟨W, hW⟩ : ∃ W, W = (w.alloc (.cells #[.int .i64 a0, .int .i64 a1, .int .i64 a2, .int .i64 a3, .int .i64 a4, .int .i64 a5, .int .i64 a6] 46)).alloc (.cells #[.int .i64 p0, .int .i64 p1] 48) := ⟨_, rfl⟩
  have hbl : Below w.heap.size w W := by rw [hW]; exact ((Below.refl w.heap.size w).alloc (Nat.le_refl _) _).alloc (by simp) _
  have d0 : W.cell? ⟨w.heap.size, 0, none⟩ = some (.int .i64 a0) := by rw [hW]; simp [go_sem]
  have d3 : W.cell? ⟨w.heap.size + 1, 0, none⟩ = some (.int .i64 p0) := by rw [hW]; simp
  have d4 : W.cell? ⟨w.heap.size + 1, 1, none⟩ = some (.int .i64 p1) := by rw [hW]; simp
  have HBL := Lib.hid hbl
  have H1 := Lib.hid (fun w' => within1 0 a0 p0 w')
  have H2 := Lib.hid (fun w' => within1 0 p0 p1 w')
  clear hbl
  go_enter Try.func72, Try.ntmps72
  go_wp2_with fail
  rw [← hW]
  clear hW
  refine (HC.out _).mono ?_
  rintro e w1 ⟨rfl, hw1⟩
  have e0 : w1.cell? ⟨w.heap.size, 0, none⟩ = some (.int .i64 a0) := by rw [hw1.cell (cell_size d0)]; exact d0
  have e3 : w1.cell? ⟨w.heap.size + 1, 0, none⟩ = some (.int .i64 p0) := by rw [hw1.cell (cell_size d3)]; exact d3
  have e4 : w1.cell? ⟨w.heap.size + 1, 1, none⟩ = some (.int .i64 p1) := by rw [hw1.cell (cell_size d4)]; exact d4
  have HW1 := Lib.hid (HBL.out.trans (hw1.mono HBL.out.size))
  clear hw1 d0 d3 d4 HBL HC
  cases hq : outB 0 a0 p0
  · have hq2 : outB 0 p0 p1 = true := by rw [planOk, hq] at hp; simpa using hp
    have Q1 := Lib.hid hq
    have Q2 := Lib.hid hq2
    clear hq hq2 hp
    go_wp2_with fail
    refine (H1.out _).mono ?_
    rintro e w2 ⟨rfl, hw2⟩
    rw [Q1.out]
    have f3 : w2.cell? ⟨w.heap.size + 1, 0, none⟩ = some (.int .i64 p0) := by rw [hw2.cell (cell_size e3)]; exact e3
    have f4 : w2.cell? ⟨w.heap.size + 1, 1, none⟩ = some (.int .i64 p1) := by rw [hw2.cell (cell_size e4)]; exact e4
    have HW2 := Lib.hid (HW1.out.trans (hw2.mono HW1.out.size))
    clear hw2 e0 e3 e4 HW1
    go_wp2_with fail
    refine (H2.out _).mono ?_
    rintro e w3 ⟨rfl, hw3⟩
    rw [Q2.out]
    have HW3 := Lib.hid (HW2.out.trans (hw3.mono HW2.out.size))
    clear hw3 f3 f4 HW2
    go_wp2
    go_ret2
    exact ⟨rfl, HW3.out⟩
  · have Q1 := Lib.hid hq
    clear hq hp
    go_wp2_with fail
    refine (H1.out _).mono ?_
    rintro e w2 ⟨rfl, hw2⟩
    rw [Q1.out]
    have HW2 := Lib.hid (HW1.out.trans (hw2.mono HW1.out.size))
    clear hw2 e0 e3 e4 HW1
    go_wp2
    go_ret2
    exact ⟨rfl, HW2.out⟩

set_option maxHeartbeats 4000000 in
theorem open_good (a0 a1 a2 a3 a4 a5 a6 p0 p1 : Int) (w : World) (ht : testN a0 a1 a2 a3 a4 a5 a6 = 0) (hp : planOk a0 p0 p1 = true) :
    Calls Try.prog 72 #[.agg #[.int .i64 a0, .int .i64 a1, .int .i64 a2, .int .i64 a3, .int .i64 a4, .int .i64 a5, .int .i64 a6], .agg #[.int .i64 p0, .int .i64 p1]] w
      fun e w' => ∃ b, e = .returned (.tuple #[.pointer (some ⟨b, 0, none⟩), .int .i64 0]) ∧ BenchAt w' b a0 a1 a2 a3 a4 a5 a6 ∧ Below w.heap.size w w' := by
  have hc := fun W => checkTest_int a0 a1 a2 a3 a4 a5 a6 W
  rw [ht] at hc
  have HC := Lib.hid hc
  clear hc ht
  obtain ⟨W, hW⟩ : ∃ W, W = (w.alloc (.cells #[.int .i64 a0, .int .i64 a1, .int .i64 a2, .int .i64 a3, .int .i64 a4, .int .i64 a5, .int .i64 a6] 46)).alloc (.cells #[.int .i64 p0, .int .i64 p1] 48) := ⟨_, rfl⟩
  have hbl : Below w.heap.size w W := by rw [hW]; exact ((Below.refl w.heap.size w).alloc (Nat.le_refl _) _).alloc (by simp) _
  have hB : BenchAt W w.heap.size a0 a1 a2 a3 a4 a5 a6 := by rw [hW]; refine ⟨?_, ?_, ?_, ?_, ?_, ?_, ?_⟩ <;> simp [go_sem]
  have d3 : W.cell? ⟨w.heap.size + 1, 0, none⟩ = some (.int .i64 p0) := by rw [hW]; simp
  have d4 : W.cell? ⟨w.heap.size + 1, 1, none⟩ = some (.int .i64 p1) := by rw [hW]; simp
  have HB := Lib.hid hB
  have d0 := hB.1
  have HBL := Lib.hid hbl
  have H1 := Lib.hid (fun w' => within1 0 a0 p0 w')
  have H2 := Lib.hid (fun w' => within1 0 p0 p1 w')
  simp only [planOk, Bool.and_eq_true, Bool.not_eq_true'] at hp
  have Q1 := Lib.hid hp.1
  have Q2 := Lib.hid hp.2
  clear hbl hp hB
  go_enter Try.func72, Try.ntmps72
  go_wp2_with fail
  rw [← hW]
  clear hW
  refine (HC.out _).mono ?_
  rintro e w1 ⟨rfl, hw1⟩
  have e0 : w1.cell? ⟨w.heap.size, 0, none⟩ = some (.int .i64 a0) := by rw [hw1.cell (cell_size d0)]; exact d0
  have e3 : w1.cell? ⟨w.heap.size + 1, 0, none⟩ = some (.int .i64 p0) := by rw [hw1.cell (cell_size d3)]; exact d3
  have e4 : w1.cell? ⟨w.heap.size + 1, 1, none⟩ = some (.int .i64 p1) := by rw [hw1.cell (cell_size d4)]; exact d4
  have HB1 := Lib.hid (bench_below HB.out hw1 (cell_size d0))
  have HW1 := Lib.hid (HBL.out.trans (hw1.mono HBL.out.size))
  clear hw1 d0 d3 d4 HBL HC HB
  go_wp2_with fail
  refine (H1.out _).mono ?_
  rintro e w2 ⟨rfl, hw2⟩
  rw [Q1.out]
  have f3 : w2.cell? ⟨w.heap.size + 1, 0, none⟩ = some (.int .i64 p0) := by rw [hw2.cell (cell_size e3)]; exact e3
  have f4 : w2.cell? ⟨w.heap.size + 1, 1, none⟩ = some (.int .i64 p1) := by rw [hw2.cell (cell_size e4)]; exact e4
  have HB2 := Lib.hid (bench_below HB1.out hw2 (cell_size e0))
  have HW2 := Lib.hid (HW1.out.trans (hw2.mono HW1.out.size))
  clear hw2 e0 e3 e4 HW1 HB1
  go_wp2_with fail
  refine (H2.out _).mono ?_
  rintro e w3 ⟨rfl, hw3⟩
  rw [Q2.out]
  have hb3 := bench_below HB2.out hw3 (cell_size HB2.out.1)
  obtain ⟨g0, g1, g2, g3, g4, g5, g6⟩ := hb3
  have HW3 := Lib.hid (HW2.out.trans (hw3.mono HW2.out.size))
  have hu46 := Try.underlying46
  have hu27 := Try.underlying27
  clear hw3 f3 f4 HW2
  go_wp2
  go_ret2
  exact ⟨_, rfl, by refine ⟨?_, ?_, ?_, ?_, ?_, ?_, ?_⟩ <;> simp [go_sem], HW3.out.alloc HW3.out.size _⟩
end Go.Proofs.Ytmgdidhhgdpobaa.Hand

/- Sides and CheckPlan come to plain numbers. -/
namespace Go.Proofs.Ytmgdidhhgdpobaa.Hand
set_option linter.unusedVariables false
set_option linter.unusedSimpArgs false
open Go.RowKit Go.Maps Go.Proofs.YtmgdidhhgdpobaaW.PrintWords Go.Proofs.YtmgdidhhgdpobaaW.PrintLast Go.Proofs.YtmgdidhhgdpobaaW.PrintMore Go.Proofs.Ytmgdidhhgdpobaa.PrA

theorem open_bad (a0 a1 a2 a3 a4 a5 a6 p0 p1 : Int) (w : World) (h : openN a0 a1 a2 a3 a4 a5 a6 p0 p1 ≠ 0) :
    Calls Try.prog 72 #[.agg #[.int .i64 a0, .int .i64 a1, .int .i64 a2, .int .i64 a3, .int .i64 a4, .int .i64 a5, .int .i64 a6], .agg #[.int .i64 p0, .int .i64 p1]] w
      fun e w' => e = .returned (.tuple #[.pointer none, .int .i64 (openN a0 a1 a2 a3 a4 a5 a6 p0 p1)]) ∧ Below w.heap.size w w' := by
  unfold openN at h ⊢
  by_cases ht : testN a0 a1 a2 a3 a4 a5 a6 = 0
  · rw [if_pos ht] at h ⊢
    cases hp : planOk a0 p0 p1
    · exact open_plan a0 a1 a2 a3 a4 a5 a6 p0 p1 w ht hp
    · rw [hp] at h; exact absurd rfl h
  · rw [if_neg ht] at h ⊢
    exact open_test a0 a1 a2 a3 a4 a5 a6 p0 p1 w ht
theorem open_zero {a0 a1 a2 a3 a4 a5 a6 p0 p1 : Int} (h : openN a0 a1 a2 a3 a4 a5 a6 p0 p1 = 0) : testN a0 a1 a2 a3 a4 a5 a6 = 0 ∧ planOk a0 p0 p1 = true := by
  unfold openN at h
  split at h
  · rename_i g
    refine ⟨g, ?_⟩
    split at h
    · rename_i g2; exact g2
    · exact absurd h (by decide)
  · rename_i g; exact absurd h g
theorem open_ok (a0 a1 a2 a3 a4 a5 a6 p0 p1 : Int) (w : World) (h : openN a0 a1 a2 a3 a4 a5 a6 p0 p1 = 0) :
    Calls Try.prog 72 #[.agg #[.int .i64 a0, .int .i64 a1, .int .i64 a2, .int .i64 a3, .int .i64 a4, .int .i64 a5, .int .i64 a6], .agg #[.int .i64 p0, .int .i64 p1]] w
      fun e w' => ∃ b, e = .returned (.tuple #[.pointer (some ⟨b, 0, none⟩), .int .i64 0]) ∧ BenchAt w' b a0 a1 a2 a3 a4 a5 a6 ∧ Below w.heap.size w w' :=
  open_good a0 a1 a2 a3 a4 a5 a6 p0 p1 w (open_zero h).1 (open_zero h).2

/-- what Sides comes to -/
def check_Sides.f (a0_0 a0_1 a0_2 a0_3 a0_4 a0_5 a0_6 a1_0 a1_1 : Int) : Option (Int × Int × Int) :=
  some (if openN a0_0 a0_1 a0_2 a0_3 a0_4 a0_5 a0_6 a1_0 a1_1 = 0 then (goodN a0_0 a0_1 a1_0 a1_1, uptoN a0_0 a0_2 a1_0 a1_1, 0) else (0, 0, openN a0_0 a0_1 a0_2 a0_3 a0_4 a0_5 a0_6 a1_0 a1_1))
/-- what CheckPlan comes to -/
def check_CheckPlan.f (a0_0 a0_1 a0_2 a0_3 a0_4 a0_5 a0_6 a1_0 a1_1 : Int) : Option Int :=
  some (if openN a0_0 a0_1 a0_2 a0_3 a0_4 a0_5 a0_6 a1_0 a1_1 = 0 then (if rightB a0_0 a0_1 a0_2 a0_3 a0_4 a0_5 a0_6 a1_0 a1_1 then 0 else 13) else openN a0_0 a0_1 a0_2 a0_3 a0_4 a0_5 a0_6 a1_0 a1_1)

set_option maxHeartbeats 4000000 in
theorem check_Sides.calls (a0_0 a0_1 a0_2 a0_3 a0_4 a0_5 a0_6 a1_0 a1_1 r1 r2 r3 : Int) (w : World) (h : check_Sides.f a0_0 a0_1 a0_2 a0_3 a0_4 a0_5 a0_6 a1_0 a1_1 = some (r1, r2, r3)) :
    Calls Try.prog 35 #[.agg #[.int .i64 a0_0, .int .i64 a0_1, .int .i64 a0_2, .int .i64 a0_3, .int .i64 a0_4, .int .i64 a0_5, .int .i64 a0_6], .agg #[.int .i64 a1_0, .int .i64 a1_1]] w
      fun e w' => e = .returned (.tuple #[.int .i64 r1, .int .i64 r2, .int .i64 r3]) ∧ Below w.heap.size w w' := by
  replace h := Option.some.inj h
  have hu46 := Try.underlying46
  have hu48 := Try.underlying48
  have hu27 := Try.underlying27
  obtain ⟨W, hW⟩ : ∃ W, W = (w.alloc (.cells #[.int .i64 a0_0, .int .i64 a0_1, .int .i64 a0_2, .int .i64 a0_3, .int .i64 a0_4, .int .i64 a0_5, .int .i64 a0_6] 46)).alloc (.cells #[.int .i64 a1_0, .int .i64 a1_1] 48) := ⟨_, rfl⟩
  have hbl : Below w.heap.size w W := by rw [hW]; exact ((Below.refl w.heap.size w).alloc (Nat.le_refl _) _).alloc (by simp) _
  have HBL := Lib.hid hbl
  have d3 : W.cell? ⟨w.heap.size + 1, 0, none⟩ = some (.int .i64 a1_0) := by rw [hW]; simp
  have d4 : W.cell? ⟨w.heap.size + 1, 1, none⟩ = some (.int .i64 a1_1) := by rw [hW]; simp
  have HD := Lib.hid (And.intro d3 d4)
  clear hbl d3 d4
  by_cases ho : openN a0_0 a0_1 a0_2 a0_3 a0_4 a0_5 a0_6 a1_0 a1_1 = 0
  · rw [if_pos ho] at h
    simp only [Prod.mk.injEq] at h
    obtain ⟨rfl, rfl, rfl⟩ := h
    have HC := Lib.hid (open_ok a0_0 a0_1 a0_2 a0_3 a0_4 a0_5 a0_6 a1_0 a1_1 W ho)
    have HO := Lib.hid (And.intro (test_in (open_zero ho).1) (plan_in (open_zero ho).2))
    clear ho
    go_enter Try.func35, Try.ntmps35
    go_wp2_with fail
    rw [← hW]
    clear hW
    refine HC.out.mono ?_
    rintro e w1 ⟨b, rfl, hB, hw1⟩
    have e3 : w1.cell? ⟨w.heap.size + 1, 0, none⟩ = some (.int .i64 a1_0) := by rw [hw1.cell (cell_size HD.out.1)]; exact HD.out.1
    have e4 : w1.cell? ⟨w.heap.size + 1, 1, none⟩ = some (.int .i64 a1_1) := by rw [hw1.cell (cell_size HD.out.2)]; exact HD.out.2
    have HC2 := Lib.hid (sides_any b a0_0 a0_1 a0_2 a0_3 a0_4 a0_5 a0_6 a1_0 a1_1 w1 hB (by have := HO.out; omega) (by have := HO.out; omega) (by have := HO.out; omega) (by have := HO.out; omega) (by have := HO.out; omega) (by have := HO.out; omega) (by have := HO.out; omega) (by have := HO.out; omega) (by have := HO.out; omega))
    have HW1 := Lib.hid (HBL.out.trans (hw1.mono HBL.out.size))
    clear hw1 hB HBL HC HD
    go_wp2_with fail
    refine HC2.out.mono ?_
    rintro e w2 ⟨rfl, hw2⟩
    have HW2 := Lib.hid (HW1.out.trans (hw2.mono HW1.out.size))
    clear hw2
    go_wp2
    refine bodyPost_ret (v := .tuple #[.int .i64 (goodN a0_0 a0_1 a1_0 a1_1), .int .i64 (uptoN a0_0 a0_2 a1_0 a1_1), .int .i64 0]) (by simp [results, Try.results35, go_sem]) rfl ⟨rfl, HW2.out⟩
  · rw [if_neg ho] at h
    simp only [Prod.mk.injEq] at h
    obtain ⟨rfl, rfl, rfl⟩ := h
    have HC := Lib.hid (open_bad a0_0 a0_1 a0_2 a0_3 a0_4 a0_5 a0_6 a1_0 a1_1 W ho)
    obtain ⟨o, hoo⟩ : ∃ o, o = openN a0_0 a0_1 a0_2 a0_3 a0_4 a0_5 a0_6 a1_0 a1_1 := ⟨_, rfl⟩
    rw [← hoo] at ho HC ⊢
    have hb1 : (o != 0) = true := bne_iff_ne.2 ho
    clear hoo ho HD
    go_enter Try.func35, Try.ntmps35
    go_wp2_with fail
    rw [← hW]
    clear hW
    refine HC.out.mono ?_
    rintro e w1 ⟨rfl, hw1⟩
    have HW1 := Lib.hid (HBL.out.trans (hw1.mono HBL.out.size))
    clear hw1
    go_wp2
    refine bodyPost_ret (v := .tuple #[.int .i64 0, .int .i64 0, .int .i64 o]) (by simp [results, Try.results35, go_sem]) rfl ⟨rfl, HW1.out⟩

set_option maxHeartbeats 4000000 in
theorem check_CheckPlan.calls (a0_0 a0_1 a0_2 a0_3 a0_4 a0_5 a0_6 a1_0 a1_1 r : Int) (w : World) (h : check_CheckPlan.f a0_0 a0_1 a0_2 a0_3 a0_4 a0_5 a0_6 a1_0 a1_1 = some r) :
    Calls Try.prog 39 #[.agg #[.int .i64 a0_0, .int .i64 a0_1, .int .i64 a0_2, .int .i64 a0_3, .int .i64 a0_4, .int .i64 a0_5, .int .i64 a0_6], .agg #[.int .i64 a1_0, .int .i64 a1_1]] w
      fun e w' => e = .returned (.int .i64 r) ∧ Below w.heap.size w w' := by
  replace h := Option.some.inj h
  have hu46 := Try.underlying46
  have hu48 := Try.underlying48
  have hu27 := Try.underlying27
  obtain ⟨W, hW⟩ : ∃ W, W = (w.alloc (.cells #[.int .i64 a0_0, .int .i64 a0_1, .int .i64 a0_2, .int .i64 a0_3, .int .i64 a0_4, .int .i64 a0_5, .int .i64 a0_6] 46)).alloc (.cells #[.int .i64 a1_0, .int .i64 a1_1] 48) := ⟨_, rfl⟩
  have hbl : Below w.heap.size w W := by rw [hW]; exact ((Below.refl w.heap.size w).alloc (Nat.le_refl _) _).alloc (by simp) _
  have HBL := Lib.hid hbl
  have d3 : W.cell? ⟨w.heap.size + 1, 0, none⟩ = some (.int .i64 a1_0) := by rw [hW]; simp
  have d4 : W.cell? ⟨w.heap.size + 1, 1, none⟩ = some (.int .i64 a1_1) := by rw [hW]; simp
  have HD := Lib.hid (And.intro d3 d4)
  clear hbl d3 d4
  by_cases ho : openN a0_0 a0_1 a0_2 a0_3 a0_4 a0_5 a0_6 a1_0 a1_1 = 0
  · rw [if_pos ho] at h
    have HC := Lib.hid (open_ok a0_0 a0_1 a0_2 a0_3 a0_4 a0_5 a0_6 a1_0 a1_1 W ho)
    have HO := Lib.hid (And.intro (test_in (open_zero ho).1) (plan_in (open_zero ho).2))
    have H := Lib.hid h
    clear ho h
    go_enter Try.func39, Try.ntmps39
    go_wp2_with fail
    rw [← hW]
    clear hW
    refine HC.out.mono ?_
    rintro e w1 ⟨b, rfl, hB, hw1⟩
    have e3 : w1.cell? ⟨w.heap.size + 1, 0, none⟩ = some (.int .i64 a1_0) := by rw [hw1.cell (cell_size HD.out.1)]; exact HD.out.1
    have e4 : w1.cell? ⟨w.heap.size + 1, 1, none⟩ = some (.int .i64 a1_1) := by rw [hw1.cell (cell_size HD.out.2)]; exact HD.out.2
    have HC2 := Lib.hid (right_any b a0_0 a0_1 a0_2 a0_3 a0_4 a0_5 a0_6 a1_0 a1_1 w1 hB (by have := HO.out; omega) (by have := HO.out; omega) (by have := HO.out; omega) (by have := HO.out; omega) (by have := HO.out; omega) (by have := HO.out; omega) (by have := HO.out; omega) (by have := HO.out; omega) (by have := HO.out; omega))
    have HW1 := Lib.hid (HBL.out.trans (hw1.mono HBL.out.size))
    clear hw1 hB HBL HC HD
    cases hq : rightB a0_0 a0_1 a0_2 a0_3 a0_4 a0_5 a0_6 a1_0 a1_1
    · have h := H.out
      rw [hq] at h HC2
      simp only [Bool.false_eq_true, if_false] at h
      subst h
      clear hq H
      go_wp2_with fail
      refine HC2.out.mono ?_
      rintro e w2 ⟨rfl, hw2⟩
      have HW2 := Lib.hid (HW1.out.trans (hw2.mono HW1.out.size))
      clear hw2
      go_wp2
      go_ret
      exact ⟨rfl, HW2.out⟩
    · have h := H.out
      rw [hq] at h HC2
      simp only [if_true] at h
      subst h
      clear hq H
      go_wp2_with fail
      refine HC2.out.mono ?_
      rintro e w2 ⟨rfl, hw2⟩
      have HW2 := Lib.hid (HW1.out.trans (hw2.mono HW1.out.size))
      clear hw2
      go_wp2
      go_ret
      exact ⟨rfl, HW2.out⟩
  · rw [if_neg ho] at h
    subst h
    have HC := Lib.hid (open_bad a0_0 a0_1 a0_2 a0_3 a0_4 a0_5 a0_6 a1_0 a1_1 W ho)
    obtain ⟨o, hoo⟩ : ∃ o, o = openN a0_0 a0_1 a0_2 a0_3 a0_4 a0_5 a0_6 a1_0 a1_1 := ⟨_, rfl⟩
    rw [← hoo] at ho HC ⊢
    have hb1 : (o != 0) = true := bne_iff_ne.2 ho
    clear hoo ho HD
    go_enter Try.func39, Try.ntmps39
    go_wp2_with fail
    rw [← hW]
    clear hW
    refine HC.out.mono ?_
    rintro e w1 ⟨rfl, hw1⟩
    have HW1 := Lib.hid (HBL.out.trans (hw1.mono HBL.out.size))
    clear hw1
    go_wp2
    go_ret
    exact ⟨rfl, HW1.out⟩
end Go.Proofs.Ytmgdidhhgdpobaa.Hand

/- The first right plan of a list. -/
namespace Go.Proofs.Ytmgdidhhgdpobaa.Hand
set_option linter.unusedVariables false
set_option linter.unusedSimpArgs false
open Go.RowKit Go.Maps Go.Proofs.YtmgdidhhgdpobaaW.PrintWords Go.Proofs.YtmgdidhhgdpobaaW.PrintLast Go.Proofs.YtmgdidhhgdpobaaW.PrintMore Go.Proofs.Ytmgdidhhgdpobaa.PrA

/-- the first plan that is right, the last one if none is -/
def pickN (p : Int × Int → Bool) : List (Int × Int) → Int × Int
  | [] => (0, 0)
  | [x] => x
  | x :: y :: l => if p x then x else pickN p (y :: l)

theorem pick_mid (p : Int × Int → Bool) : ∀ (pre : List (Int × Int)) (x : Int × Int) (l : List (Int × Int)), (∀ y ∈ pre, p y = false) → p x = true → pickN p (pre ++ x :: l) = x
  | [], x, [], _, _ => rfl
  | [], x, y :: l, _, h => by simp [pickN, h]
  | [z], x, l, h1, h2 => by
    have := h1 z (by simp)
    have h3 := pick_mid p [] x l (by simp) h2
    simp only [List.nil_append] at h3
    simp only [List.cons_append, List.nil_append, pickN, this, Bool.false_eq_true, if_false]
    exact h3
  | z :: z' :: pre, x, l, h1, h2 => by
    have := h1 z (by simp)
    have h3 := pick_mid p (z' :: pre) x l (fun y hy => h1 y (List.mem_cons_of_mem _ hy)) h2
    simp only [List.cons_append] at h3 ⊢
    simp only [pickN, this, Bool.false_eq_true, if_false]
    exact h3
theorem pick_none (p : Int × Int → Bool) : ∀ (l : List (Int × Int)) (h : l ≠ []), (∀ y ∈ l, p y = false) → pickN p l = l.getLast h
  | [], h, _ => absurd rfl h
  | [x], _, _ => rfl
  | x :: y :: l, _, h1 => by
    have h3 := pick_none p (y :: l) (by simp) (fun z hz => h1 z (List.mem_cons_of_mem _ hz))
    rw [List.getLast_cons (by simp), ← h3]
    simp [pickN, h1 x (by simp)]

set_option maxHeartbeats 4000000 in
set_option maxRecDepth 100000 in
theorem first_any (b g cap : Nat) (a0 a1 a2 a3 a4 a5 a6 : Int) (l : List (Int × Int)) (w : World) (hB : BenchAt w b a0 a1 a2 a3 a4 a5 a6) (ha : a0 ≤ 50) (h1 : 0 ≤ a1) (h2 : a1 ≤ a0) (h3 : 0 ≤ a2) (h4 : a2 ≤ a0)
    (hl : l ≠ []) (hln : l.length ≤ 5000) (hc : l.length ≤ cap) (hok : ∀ x ∈ l, planOk a0 x.1 x.2 = true)
    (hr : ∀ j (x : Int × Int), l[j]? = some x → w.cell? ⟨g, j * 2, none⟩ = some (.int .i64 x.1) ∧ w.cell? ⟨g, j * 2 + 1, none⟩ = some (.int .i64 x.2)) :
    Calls Try.prog 75 #[.slice (some ⟨g, 0, none⟩) l.length cap, .func (.func 74) #[.pointer (some ⟨b, 0, none⟩)] #[]] w
      fun e w' => e = .returned (.agg #[.int .i64 (pickN (fun x => rightB a0 a1 a2 a3 a4 a5 a6 x.1 x.2) l).1, .int .i64 (pickN (fun x => rightB a0 a1 a2 a3 a4 a5 a6 x.1 x.2) l).2]) ∧ Below w.heap.size w w' := by
  have hbs := cell_size hB.1
  have hpos : 0 < l.length := List.length_pos_iff.2 hl
  have hgs : g < w.heap.size := by
    have := (hr 0 l[0] (by simp [hpos])).1
    exact cell_size this
  have HB := Lib.hid hB
  have HR := Lib.hid hr
  have HOK := Lib.hid hok
  have hu48 := Try.underlying48
  clear hB hr hok
  go_enter Try.func75, Try.ntmps75
  go_wp2
  go_loopw [9] (fun i wr => ∃ k : Nat, k ≤ l.length ∧ i = .int .i64 k ∧ Hid ((∀ y ∈ l.take k, rightB a0 a1 a2 a3 a4 a5 a6 y.1 y.2 = false) ∧ Below (w.alloc (.cells #[.int .i64 0, .int .i64 0] 48)).heap.size (w.alloc (.cells #[.int .i64 0, .int .i64 0] 48)) wr)) (fun i _ => l.length - (intOf i).toNat)
  case atStart => exact ⟨0, Nat.zero_le _, rfl, Lib.hid ⟨by simp, Below.refl _ _⟩⟩
  case round =>
    obtain ⟨k, hk, rfl, HI⟩ := hrel
    have hbw : Below w.heap.size w wr := ((Below.refl _ _).alloc (Nat.le_refl _) _).trans (HI.out.2.mono (by simp))
    by_cases hlt : k < l.length
    · have hx := HR.out k l[k] (by simp [hlt])
      obtain ⟨x, hxe⟩ : ∃ x, x = l[k] := ⟨_, rfl⟩
      rw [← hxe] at hx
      obtain ⟨x0, x1⟩ := hx
      rw [← hbw.cell (by exact hgs)] at x0 x1
      have HBW := Lib.hid hbw
      clear hbw
      have HE := Lib.hid hxe
      clear hxe
      have hb2 : BenchAt wr b a0 a1 a2 a3 a4 a5 a6 := bench_below HB.out HBW.out hbs
      have hbn : Below wr.heap.size wr (wr.alloc (.cells #[.int .i64 x.1, .int .i64 x.2] 48)) := (Below.refl _ _).alloc (Nat.le_refl _) _
      have hpo := plan_in (HOK.out x (by rw [HE.out]; exact List.getElem_mem hlt))
      have hbr := Nat.lt_of_lt_of_le hbs HBW.out.size
      have HC := Lib.hid (right_any b a0 a1 a2 a3 a4 a5 a6 x.1 x.2 _ (bench_below hb2 hbn hbr) ha h1 h2 h3 h4 (by omega) (by omega) (by omega) (by omega))
      have HBN := Lib.hid hbn
      clear hb2 hbn hpo hbr
      obtain ⟨xa, xb⟩ := x
      dsimp only at x0 x1 HC HBN
      cases hq : rightB a0 a1 a2 a3 a4 a5 a6 xa xb
      · have HQ := Lib.hid hq
        rw [hq] at HC
        clear hq
        go_wp2_with fail
        refine HC.out.mono ?_
        rintro e w2 ⟨rfl, hw2⟩
        have HW2 := Lib.hid hw2
        clear hw2
        go_wp2
        go_roundw
        case rel => exact ⟨k + 1, by omega, by go_num, Lib.hid ⟨by
          intro y hy
          rw [List.take_succ_eq_append_getElem hlt, List.mem_append] at hy
          rcases hy with hy | hy
          · exact HI.out.1 y hy
          · rw [← HE.out] at hy
            obtain rfl := List.mem_singleton.1 hy
            exact HQ.out, HI.out.2.trans ((HBN.out.mono HI.out.2.size).trans (HW2.out.mono (Nat.le_trans HI.out.2.size (Nat.le_trans HBN.out.size (Nat.le_refl _)))))⟩⟩
        case measure => simp [intOf]; omega
      · have HQ := Lib.hid hq
        rw [hq] at HC
        clear hq
        go_wp2_with fail
        refine HC.out.mono ?_
        rintro e w2 ⟨rfl, hw2⟩
        have HW2 := Lib.hid hw2
        clear hw2
        have e0 : w2.cell? ⟨wr.heap.size, 0, none⟩ = some (.int .i64 xa) := by rw [HW2.out.cell (by simp)]; simp
        have e1 : w2.cell? ⟨wr.heap.size, 1, none⟩ = some (.int .i64 xb) := by rw [HW2.out.cell (by simp)]; simp
        have hbb := HI.out.2.trans ((HBN.out.mono HI.out.2.size).trans (HW2.out.mono (Nat.le_trans HI.out.2.size HBN.out.size)))
        have c1 : w2.cell? ⟨w.heap.size, 0, none⟩ = some (.int .i64 0) := by rw [hbb.cell (by simp)]; simp
        have c2 : w2.cell? ⟨w.heap.size, 1, none⟩ = some (.int .i64 0) := by rw [hbb.cell (by simp)]; simp
        have f1 : w2.frozen? ⟨w.heap.size, 0, none⟩ = false := by rw [hbb.frozen (by simp)]; simp
        have f2 : w2.frozen? ⟨w.heap.size, 1, none⟩ = false := by rw [hbb.frozen (by simp)]; simp
        have HBB := Lib.hid hbb
        have hpk : pickN (fun x => rightB a0 a1 a2 a3 a4 a5 a6 x.1 x.2) l = (xa, xb) := by
          have h5 : l = l.take k ++ (xa, xb) :: l.drop (k + 1) := by rw [HE.out, List.getElem_cons_drop, List.take_append_drop]
          rw [h5]
          exact pick_mid _ _ _ _ HI.out.1 HQ.out
        have HPK := Lib.hid hpk
        clear hbb hpk
        go_wp2
        refine bodyPost_ret (v := .agg #[.int .i64 xa, .int .i64 xb]) (by simp [results, Try.results75, go_sem, c1, c2]) rfl ⟨by rw [HPK.out], ?_⟩
        exact ((((Below.refl _ _).alloc (Nat.le_refl _) _).trans (HBB.out.mono (by simp))).setCell (by simp) _).setCell (by simp) _
    · have hke : k = l.length := by omega
      subst hke
      have hm : 0 < l.length := hpos
      obtain ⟨m, hmm⟩ : ∃ m, m + 1 = l.length := ⟨l.length - 1, by omega⟩
      have hx := HR.out m l[m] (by simp)
      obtain ⟨x, hxe⟩ : ∃ x, x = l[m] := ⟨_, rfl⟩
      rw [← hxe] at hx
      obtain ⟨x0, x1⟩ := hx
      rw [← hbw.cell (by exact hgs)] at x0 x1
      obtain ⟨xa, xb⟩ := x
      dsimp only at x0 x1
      have hpk : pickN (fun x => rightB a0 a1 a2 a3 a4 a5 a6 x.1 x.2) l = (xa, xb) := by
        rw [pick_none _ l hl (fun y hy => HI.out.1 y (by rw [List.take_length]; exact hy)), List.getLast_eq_getElem, hxe]
        congr 1
        omega
      have HPK := Lib.hid hpk
      have hbb := HI.out.2
      have c1 : wr.cell? ⟨w.heap.size, 0, none⟩ = some (.int .i64 0) := by rw [hbb.cell (by simp)]; simp
      have c2 : wr.cell? ⟨w.heap.size, 1, none⟩ = some (.int .i64 0) := by rw [hbb.cell (by simp)]; simp
      have f1 : wr.frozen? ⟨w.heap.size, 0, none⟩ = false := by rw [hbb.frozen (by simp)]; simp
      have f2 : wr.frozen? ⟨w.heap.size, 1, none⟩ = false := by rw [hbb.frozen (by simp)]; simp
      have HBB := Lib.hid hbb
      have HL := Lib.hid hxe
      clear hbb hpk hxe hbw hl
      have hln1 : (l.length : Int) - 1 = (m : Int) := by omega
      go_wp2
      refine bodyPost_ret (v := .agg #[.int .i64 xa, .int .i64 xb]) (by simp [results, Try.results75, go_sem, c1, c2]) rfl ⟨by rw [HPK.out], ?_⟩
      exact ((((Below.refl _ _).alloc (Nat.le_refl _) _).trans (HBB.out.mono (by simp))).setCell (by simp) _).setCell (by simp) _
end Go.Proofs.Ytmgdidhhgdpobaa.Hand

/- Plan comes to the first right plan of all. -/
namespace Go.Proofs.Ytmgdidhhgdpobaa.Hand
set_option linter.unusedVariables false
set_option linter.unusedSimpArgs false
open Go.RowKit Go.Maps Go.Proofs.YtmgdidhhgdpobaaW.PrintWords Go.Proofs.YtmgdidhhgdpobaaW.PrintLast Go.Proofs.YtmgdidhhgdpobaaW.PrintMore Go.Proofs.Ytmgdidhhgdpobaa.PrA

/-- the plans of one size, the first ones -/
def plansOf (s : Nat) (m : Nat) : List (Int × Int) := (List.range m).map fun (k : Nat) => ((s : Int), (k : Int))
/-- the plans of the sizes below one -/
def plansTo : Nat → List (Int × Int)
  | 0 => []
  | s + 1 => plansTo s ++ plansOf s (s + 1)
def planCells (l : List (Int × Int)) : List Value := l.flatMap fun x => [.int .i64 x.1, .int .i64 x.2]

theorem plansOf_length (s m : Nat) : (plansOf s m).length = m := by simp [plansOf]
theorem plansTo_length : ∀ s, (plansTo s).length ≤ s * 51 ∨ 50 < s
  | 0 => .inl (by simp [plansTo])
  | s + 1 => by
    rcases plansTo_length s with h | h
    · by_cases h50 : 50 < s + 1
      · exact .inr h50
      · left; simp only [plansTo, List.length_append, plansOf_length]; omega
    · right; omega
theorem planCells_length (l : List (Int × Int)) : (planCells l).length = l.length * 2 := by
  induction l with
  | nil => rfl
  | cons x l ih => simp only [planCells, List.flatMap_cons, List.length_append, List.length_cons, List.length_nil] at ih ⊢; omega
theorem planCells_get : ∀ (l : List (Int × Int)) (j : Nat) (x : Int × Int), l[j]? = some x → (planCells l)[j * 2]? = some (.int .i64 x.1) ∧ (planCells l)[j * 2 + 1]? = some (.int .i64 x.2)
  | [], j, x, h => by simp at h
  | y :: l, 0, x, h => by
    simp only [List.getElem?_cons_zero, Option.some.injEq] at h
    subst h
    simp [planCells]
  | y :: l, j + 1, x, h => by
    simp only [List.getElem?_cons_succ] at h
    have := planCells_get l j x h
    simp only [planCells, List.flatMap_cons, List.cons_append, List.nil_append] at this ⊢
    rw [show (j + 1) * 2 = j * 2 + 1 + 1 by omega]
    simp only [List.getElem?_cons_succ]
    exact this
theorem planCells_snoc (l : List (Int × Int)) (x : Int × Int) : planCells (l ++ [x]) = planCells l ++ [.int .i64 x.1, .int .i64 x.2] := by simp [planCells]
theorem plansOf_succ (s m : Nat) : plansOf s (m + 1) = plansOf s m ++ [((s : Int), (m : Int))] := by simp [plansOf, List.range_succ]
theorem mem_plansTo {x : Int × Int} : ∀ {s : Nat}, x ∈ plansTo s → ∃ a b : Nat, x = ((a : Int), (b : Int)) ∧ a < s ∧ b ≤ a
  | 0, h => by simp [plansTo] at h
  | s + 1, h => by
    rw [plansTo, List.mem_append] at h
    rcases h with h | h
    · obtain ⟨a, b, e, h1, h2⟩ := mem_plansTo h
      exact ⟨a, b, e, by omega, h2⟩
    · simp only [plansOf, List.mem_map, List.mem_range] at h
      obtain ⟨m, hm, rfl⟩ := h
      exact ⟨s, m, rfl, by omega, by omega⟩
theorem own_planCells {w : World} {base : Nat} {v : Value} {l : List (Int × Int)} (h : w.ownsRow base 48 2 v l.length (planCells l)) (hl : l ≠ []) :
    ∃ g cap, v = .slice (some ⟨g, 0, none⟩) l.length cap ∧ l.length ≤ cap ∧ ∀ j (x : Int × Int), l[j]? = some x → w.cell? ⟨g, j * 2, none⟩ = some (.int .i64 x.1) ∧ w.cell? ⟨g, j * 2 + 1, none⟩ = some (.int .i64 x.2) := by
  have hpos : 0 < l.length := List.length_pos_iff.2 hl
  rcases h.2 with ⟨_, h0⟩ | ⟨g, cap, cur, hv, _, hh, hc, _, hcs, htk⟩
  · omega
  · refine ⟨g, cap, hv, hc, fun j x hx => ?_⟩
    have hj : j < l.length := (List.getElem?_eq_some_iff.1 hx).1
    obtain ⟨e0, e1⟩ := planCells_get l j x hx
    rw [← htk, List.getElem?_take_of_lt (by omega)] at e0 e1
    have key : ∀ i u, cur.toList[i]? = some u → w.cell? ⟨g, i, none⟩ = some u := fun i u hi => by
      rw [Array.getElem?_toList] at hi
      simp [World.cell?, hh, hi]
    exact ⟨key _ _ e0, key _ _ e1⟩
theorem infoPlan : (Try.prog.info? 48).map (fun i => (i.zero, i.size, i.bytes)) = some (some (.agg #[.int .i64 0, .int .i64 0]), 2, 16) := by kernel_rfl

/-- the first right plan -/
def planN (a0 a1 a2 a3 a4 a5 a6 : Int) : Int × Int := pickN (fun x => rightB a0 a1 a2 a3 a4 a5 a6 x.1 x.2) (plansTo (a0.toNat + 1))
def check_Plan.f (a0 a1 a2 a3 a4 a5 a6 : Int) : Option (Int × Int × Int) :=
  some (if testN a0 a1 a2 a3 a4 a5 a6 = 0 then ((planN a0 a1 a2 a3 a4 a5 a6).1, (planN a0 a1 a2 a3 a4 a5 a6).2, 0) else (0, 0, testN a0 a1 a2 a3 a4 a5 a6))

theorem open_zeroPlan {a0 a1 a2 a3 a4 a5 a6 : Int} : openN a0 a1 a2 a3 a4 a5 a6 0 0 = testN a0 a1 a2 a3 a4 a5 a6 := by
  unfold openN
  by_cases h : testN a0 a1 a2 a3 a4 a5 a6 = 0
  · rw [if_pos h, h]
    have := test_in h
    have h1 : planOk a0 0 0 = true := by simp [planOk, outB]; omega
    rw [h1]; rfl
  · rw [if_neg h]

set_option maxHeartbeats 4000000 in
set_option maxRecDepth 100000 in
theorem plan_good (a0 a1 a2 a3 a4 a5 a6 : Int) (w : World) (ht : testN a0 a1 a2 a3 a4 a5 a6 = 0) :
    Calls Try.prog 41 #[.agg #[.int .i64 a0, .int .i64 a1, .int .i64 a2, .int .i64 a3, .int .i64 a4, .int .i64 a5, .int .i64 a6]] w
      fun e w' => e = .returned (.tuple #[.agg #[.int .i64 (planN a0 a1 a2 a3 a4 a5 a6).1, .int .i64 (planN a0 a1 a2 a3 a4 a5 a6).2], .int .i64 0]) ∧ Below w.heap.size w w' := by
  have hu46 := Try.underlying46
  have hu48 := Try.underlying48
  have hu27 := Try.underlying27
  have ho := (@open_zeroPlan a0 a1 a2 a3 a4 a5 a6).trans ht
  have HT := Lib.hid (test_in ht)
  obtain ⟨n, hn⟩ : ∃ n : Nat, a0 = (n : Int) := ⟨a0.toNat, by have := HT.out; omega⟩
  subst hn
  obtain ⟨W, hW⟩ : ∃ W, W = (w.alloc (.cells #[.int .i64 (n : Int), .int .i64 a1, .int .i64 a2, .int .i64 a3, .int .i64 a4, .int .i64 a5, .int .i64 a6] 46)).alloc (.cells #[.int .i64 0, .int .i64 0] 48) := ⟨_, rfl⟩
  have hbl : Below w.heap.size w W := by rw [hW]; exact ((Below.refl w.heap.size w).alloc (Nat.le_refl _) _).alloc (by simp) _
  have HBL := Lib.hid hbl
  have HC := Lib.hid (open_ok (n : Int) a1 a2 a3 a4 a5 a6 0 0 W ho)
  have d0 : W.cell? ⟨w.heap.size, 0, none⟩ = some (.int .i64 (n : Int)) := by rw [hW]; simp [go_sem]
  have d1 : W.cell? ⟨w.heap.size + 1, 0, none⟩ = some (.int .i64 0) := by rw [hW]; simp
  have d2 : W.cell? ⟨w.heap.size + 1, 1, none⟩ = some (.int .i64 0) := by rw [hW]; simp
  have d3 : W.frozen? ⟨w.heap.size + 1, 0, none⟩ = false := by rw [hW]; simp
  have d4 : W.frozen? ⟨w.heap.size + 1, 1, none⟩ = false := by rw [hW]; simp
  have dsz : w.heap.size + 2 ≤ W.heap.size := by rw [hW]; simp
  have HD := Lib.hid (And.intro d0 (And.intro d1 (And.intro d2 (And.intro d3 (And.intro d4 dsz)))))
  have hn50 : n ≤ 50 := by have := HT.out; omega
  clear hbl d0 d1 d2 d3 d4 dsz ho ht
  go_enter Try.func41, Try.ntmps41
  go_wp2_with fail
  rw [← hW]
  clear hW
  refine HC.out.mono ?_
  rintro e w1 ⟨b, rfl, hB, hw1⟩
  have e0 : w1.cell? ⟨w.heap.size, 0, none⟩ = some (.int .i64 (n : Int)) := by rw [hw1.cell (cell_size HD.out.1)]; exact HD.out.1
  have HB := Lib.hid hB
  have HW1 := Lib.hid hw1
  clear hw1 hB HC
  go_wp2
  obtain ⟨i0, hi, hz0, hz1, hz2⟩ := info_parts infoPlan
  go_loopw [6, 23] (fun v i wr => ∃ k : Nat, k ≤ n + 1 ∧ i = .int .i64 k ∧ Hid (wr.ownsRow w1.heap.size 48 2 v (plansTo k).length (planCells (plansTo k)) ∧ Below w1.heap.size w1 wr)) (fun _ i _ => 60 - (intOf i).toNat)
  case atStart => exact ⟨0, Nat.zero_le _, rfl, Lib.hid ⟨⟨rfl, .inl ⟨rfl, rfl⟩⟩, Below.refl _ _⟩⟩
  case round =>
    obtain ⟨k, hk, rfl, HI⟩ := hrel
    by_cases hlt : k < n + 1
    · have hlti : (k : Int) < (n : Int) + 1 := by omega
      obtain ⟨wo, rfl⟩ : ∃ wo : World, wo = wr := ⟨_, rfl⟩
      go_wp2
      go_loopw [6, 28] (fun v i wr => ∃ j : Nat, j ≤ k + 1 ∧ i = .int .i64 j ∧ Hid (wr.ownsRow w1.heap.size 48 2 v (plansTo k ++ plansOf k j).length (planCells (plansTo k ++ plansOf k j)) ∧ Below w1.heap.size w1 wr)) (fun _ i _ => 60 - (intOf i).toNat)
      case atStart => exact ⟨0, Nat.zero_le _, rfl, by rw [show plansOf k 0 = [] from rfl, List.append_nil]; exact HI⟩
      case round =>
        obtain ⟨j, hj, rfl, HJ⟩ := hrel
        by_cases hlj : j < k + 1
        · have hlji : (j : Int) < (k : Int) + 1 := by omega
          have hlen : (plansTo k ++ plansOf k j).length ≤ 3000 := by
            have := plansTo_length k
            rw [List.length_append, plansOf_length]; omega
          go_wp2_with (first | (at_builtin; refine print_append_cells (w0 := w1) w1.heap.size rfl (.tmp 31) (.tmp 35) 101 48 (.agg #[.int .i64 0, .int .i64 0]) 2 16 rfl Try.underlying101 infoPlan rfl (by decide) (by decide) u6 (plansTo k ++ plansOf k j).length (planCells (plansTo k ++ plansOf k j)) [.int .i64 (k : Int), .int .i64 (j : Int)] rfl rfl rfl (by simp [Value.oneCell']) HJ.out.1 HJ.out.2 HJ.out.2.size (by omega) ?_; intro v5 w5 hown5 hb5 hg5 _; have H5 := Lib.hid (And.intro hown5 hb5); clear hown5 hb5 hg5))
          go_roundw
          case rel => exact ⟨j + 1, by omega, by go_num, Lib.hid ⟨by
            have := H5.out.1
            rw [plansOf_succ, ← List.append_assoc, planCells_snoc, List.length_append]
            exact this, H5.out.2⟩⟩
          case measure => simp [intOf]; omega
        · obtain rfl : j = k + 1 := by omega
          go_wp2
          go_roundw
          case rel => exact ⟨k + 1, by omega, by go_num, HJ⟩
          case measure => simp [intOf]; omega
    · obtain rfl : k = n + 1 := by omega
      have hne : plansTo (n + 1) ≠ [] := by simp [plansTo, plansOf, List.range_succ]
      obtain ⟨g, cap, rfl, hcap, hcells⟩ := own_planCells HI.out.1 hne
      have hbench := bench_below HB.out HI.out.2 (cell_size HB.out.1)
      have hlen : (plansTo (n + 1)).length ≤ 5000 := by
        have h1 := plansTo_length (n + 1)
        have h2 := plansTo_length n
        have : (plansTo (n + 1)).length = (plansTo n).length + (n + 1) := by rw [plansTo, List.length_append, plansOf_length]
        omega
      have HF := Lib.hid (first_any b g cap n a1 a2 a3 a4 a5 a6 (plansTo (n + 1)) wr hbench (by omega) (by have := HT.out; omega) (by have := HT.out; omega) (by have := HT.out; omega) (by have := HT.out; omega) hne hlen hcap (fun x hx => by
        obtain ⟨c, d, rfl, h1, h2⟩ := mem_plansTo hx
        simp [planOk, outB]; omega) hcells)
      clear hbench hcells
      go_wp2_with fail
      refine HF.out.mono ?_
      rintro e w2 ⟨rfl, hw2⟩
      have hall := HBL.out.trans ((HW1.out.mono HBL.out.size).trans ((HI.out.2.mono (Nat.le_trans HBL.out.size HW1.out.size)).trans (hw2.mono (Nat.le_trans HBL.out.size (Nat.le_trans HW1.out.size HI.out.2.size)))))
      have hup : Below W.heap.size W w2 := HW1.out.trans ((HI.out.2.mono HW1.out.size).trans (hw2.mono (Nat.le_trans HW1.out.size HI.out.2.size)))
      obtain ⟨-, d1, d2, d3, d4, dsz⟩ := HD.out
      have c1 : w2.cell? ⟨w.heap.size + 1, 0, none⟩ = some (.int .i64 0) := by rw [hup.cell (cell_size d1)]; exact d1
      have c2 : w2.cell? ⟨w.heap.size + 1, 1, none⟩ = some (.int .i64 0) := by rw [hup.cell (cell_size d2)]; exact d2
      have f1 : w2.frozen? ⟨w.heap.size + 1, 0, none⟩ = false := by rw [hup.frozen (cell_size d1)]; exact d3
      have f2 : w2.frozen? ⟨w.heap.size + 1, 1, none⟩ = false := by rw [hup.frozen (cell_size d2)]; exact d4
      have HALL := Lib.hid hall
      have HPN : Hid (planN n a1 a2 a3 a4 a5 a6 = pickN (fun x => rightB n a1 a2 a3 a4 a5 a6 x.1 x.2) (plansTo (n + 1))) := Lib.hid (by unfold planN; rw [Int.toNat_natCast])
      clear hall hup hw2 d1 d2 d3 d4 dsz
      obtain ⟨q, hq⟩ : ∃ q, q = pickN (fun x => rightB n a1 a2 a3 a4 a5 a6 x.1 x.2) (plansTo (n + 1)) := ⟨_, rfl⟩
      rw [← hq] at HPN ⊢
      clear hq HF
      go_wp2
      refine bodyPost_ret (v := .tuple #[.agg #[.int .i64 q.1, .int .i64 q.2], .int .i64 0]) (by simp [results, Try.results41, go_sem, c1, c2]) rfl ⟨by rw [HPN.out], ?_⟩
      exact (HALL.out.setCell (by simp) _).setCell (by simp) _

set_option maxHeartbeats 4000000 in
theorem check_Plan.calls (a0_0 a0_1 a0_2 a0_3 a0_4 a0_5 a0_6 r1_0 r1_1 r2 : Int) (w : World) (h : check_Plan.f a0_0 a0_1 a0_2 a0_3 a0_4 a0_5 a0_6 = some (r1_0, r1_1, r2)) :
    Calls Try.prog 41 #[.agg #[.int .i64 a0_0, .int .i64 a0_1, .int .i64 a0_2, .int .i64 a0_3, .int .i64 a0_4, .int .i64 a0_5, .int .i64 a0_6]] w
      fun e w' => e = .returned (.tuple #[.agg #[.int .i64 r1_0, .int .i64 r1_1], .int .i64 r2]) ∧ Below w.heap.size w w' := by
  replace h := Option.some.inj h
  by_cases ht : testN a0_0 a0_1 a0_2 a0_3 a0_4 a0_5 a0_6 = 0
  · rw [if_pos ht] at h
    simp only [Prod.mk.injEq] at h
    obtain ⟨rfl, rfl, rfl⟩ := h
    exact plan_good a0_0 a0_1 a0_2 a0_3 a0_4 a0_5 a0_6 w ht
  · rw [if_neg ht] at h
    simp only [Prod.mk.injEq] at h
    obtain ⟨rfl, rfl, rfl⟩ := h
    have hu46 := Try.underlying46
    have hu48 := Try.underlying48
    have hu27 := Try.underlying27
    have HO := fun W => open_test a0_0 a0_1 a0_2 a0_3 a0_4 a0_5 a0_6 0 0 W ht
    obtain ⟨t, htt⟩ : ∃ t, t = testN a0_0 a0_1 a0_2 a0_3 a0_4 a0_5 a0_6 := ⟨_, rfl⟩
    rw [← htt] at ht HO ⊢
    have hb1 : (t != 0) = true := bne_iff_ne.2 ht
    have HO := Lib.hid HO
    clear htt ht
    go_enter Try.func41, Try.ntmps41
    go_wp2_with fail
    refine (HO.out _).mono ?_
    rintro e w1 ⟨rfl, hw1⟩
    have c1 : w1.cell? ⟨w.heap.size + 1, 0, none⟩ = some (.int .i64 0) := by rw [hw1.cell (by simp)]; simp
    have c2 : w1.cell? ⟨w.heap.size + 1, 1, none⟩ = some (.int .i64 0) := by rw [hw1.cell (by simp)]; simp
    have f1 : w1.frozen? ⟨w.heap.size + 1, 0, none⟩ = false := by rw [hw1.frozen (by simp)]; simp
    have f2 : w1.frozen? ⟨w.heap.size + 1, 1, none⟩ = false := by rw [hw1.frozen (by simp)]; simp
    have HW1 := Lib.hid hw1
    clear hw1
    go_wp2
    refine bodyPost_ret (v := .tuple #[.agg #[.int .i64 0, .int .i64 0], .int .i64 t]) (by simp [results, Try.results41, go_sem, c1, c2]) rfl ⟨rfl, ?_⟩
    exact ((((((Below.refl _ _).alloc (Nat.le_refl _) _).alloc (by simp) _).trans (HW1.out.mono (by simp; omega))).setCell (by simp) _).setCell (by simp) _)
end Go.Proofs.Ytmgdidhhgdpobaa.Hand

/- The bench of a test: open, sides, right come to plain numbers. -/
import Derived.Test.YtmgdidhhgdpobaaHChance
import Derived.Test.YtmgdidhhgdpobaaHHeld
import Derived.RegionTactic
namespace Go.Proofs.Ytmgdidhhgdpobaa.Hand
open Go.RowKit Go.Maps Go.Proofs.YtmgdidhhgdpobaaW.PrintWords Go.Proofs.YtmgdidhhgdpobaaW.PrintLast Go.Proofs.YtmgdidhhgdpobaaW.PrintMore Go.Proofs.Ytmgdidhhgdpobaa.PrA

/-- a bench lies in a block -/
def BenchAt (w : World) (b : Nat) (a0 a1 a2 a3 a4 a5 a6 : Int) : Prop :=
  w.cell? ⟨b, 0, none⟩ = some (.int .i64 a0) ∧ w.cell? ⟨b, 1, none⟩ = some (.int .i64 a1) ∧ w.cell? ⟨b, 2, none⟩ = some (.int .i64 a2) ∧ w.cell? ⟨b, 3, none⟩ = some (.int .i64 a3) ∧ w.cell? ⟨b, 4, none⟩ = some (.int .i64 a4) ∧ w.cell? ⟨b, 5, none⟩ = some (.int .i64 a5) ∧ w.cell? ⟨b, 6, none⟩ = some (.int .i64 a6)

/-- with how many samples a good scaler does not pass -/
def goodN (a0 a1 p0 p1 : Int) : Int := (binom a0.toNat p0.toNat : Int) - uptoN a0 a1 p0 p1

theorem bench_below {w w' : World} {b : Nat} {a0 a1 a2 a3 a4 a5 a6 : Int} (h : BenchAt w b a0 a1 a2 a3 a4 a5 a6) {n : Nat} (hb : Below n w w') (hn : b < n) : BenchAt w' b a0 a1 a2 a3 a4 a5 a6 := by
  obtain ⟨h0, h1, h2, h3, h4, h5, h6⟩ := h
  refine ⟨?_, ?_, ?_, ?_, ?_, ?_, ?_⟩ <;> (rw [hb.cell (by exact hn)]; assumption)

set_option maxHeartbeats 4000000 in
theorem sides_any (b : Nat) (a0 a1 a2 a3 a4 a5 a6 p0 p1 : Int) (w : World) (hB : BenchAt w b a0 a1 a2 a3 a4 a5 a6) (ha : a0 ≤ 50) (h1 : 0 ≤ a1) (h2 : a1 ≤ a0) (h3 : 0 ≤ a2) (h4 : a2 ≤ a0) (h5 : 0 ≤ p0) (h6 : p0 ≤ a0) (h7 : 0 ≤ p1) (h8 : p1 ≤ p0) :
    Calls Try.prog 73 #[.pointer (some ⟨b, 0, none⟩), .agg #[.int .i64 p0, .int .i64 p1]] w
      fun e w' => e = .returned (.tuple #[.int .i64 (goodN a0 a1 p0 p1), .int .i64 (uptoN a0 a2 p0 p1)]) ∧ Below w.heap.size w w' := by
  have hs := cell_size hB.1
  obtain ⟨W, hW⟩ : ∃ W, W = w.alloc (.cells #[.int .i64 p0, .int .i64 p1] 48) := ⟨_, rfl⟩
  have hbl : Below w.heap.size w W := by rw [hW]; exact (Below.refl w.heap.size w).alloc (Nat.le_refl _) _
  obtain ⟨d0, d1, d2, -, -, -, -⟩ := bench_below hB hbl hs
  have d3 : W.cell? ⟨w.heap.size, 0, none⟩ = some (.int .i64 p0) := by rw [hW]; simp
  have d4 : W.cell? ⟨w.heap.size, 1, none⟩ = some (.int .i64 p1) := by rw [hW]; simp
  have c0 := kept_cell' d0
  have c1 := kept_cell' d1
  have c2 := kept_cell' d2
  have c3 := kept_cell' d3
  have c4 := kept_cell' d4
  clear d0 d1 d2 d3 d4
  have HBL := Lib.hid hbl
  clear hbl
  have hix : ∀ w', (Instr.index 82 (.agg (cellsOf (rowF a0.toNat))) (.int .i64 p0)).run Try.prog w' = .ok (.int .i64 (binom a0.toNat p0.toNat)) w' := fun w' => by
    obtain ⟨q, rfl⟩ := Int.eq_ofNat_of_zero_le h5
    exact run_index_agg w' row_under row_key row_cells (by omega) (cellsOf_get _ _ (by omega))
  have hul := uptoN_le h1 h2 h7 h8
  have hun := uptoN_nat a0 a1 p0 p1
  have hbb := binom_le50 a0.toNat p0.toNat (by omega)
  have hsub : IntKind.i64.wrap ((binom a0.toNat p0.toNat : Int) - uptoN a0 a1 p0 p1) = goodN a0 a1 p0 p1 := IntWalk.i64_in _ (by omega)
  have hk1 := fun W => choices_int a0 (by omega) ha W
  have hk2 := fun W => upTo_int a0 a1 p0 p1 ha h1 h2 (by omega) h7 h8 W
  have hk3 := fun W => upTo_int a0 a2 p0 p1 ha h3 h4 (by omega) h7 h8 W
  have K1 := Lib.hid hk1
  have K2 := Lib.hid hk2
  have K3 := Lib.hid hk3
  clear hul hun hbb hk1 hk2 hk3
  clear hB hs h1 h2 h3 h4 h5 h6 h7 h8 ha
  go_enter Try.func73, Try.ntmps73
  go_wp2_with fail
  rw [← hW]
  clear hW
  refine wp_region_kept W.heap.size W (by kernel_rfl) (by kernel_rfl) (Below.refl _ _) ?_
  repeat (go_big_quiet_step (first | with_reducible exact kept_calls _ (Nat.le_refl _) (K1.out _) | with_reducible exact kept_calls _ (Nat.le_refl _) (K2.out _) | with_reducible exact kept_calls _ (Nat.le_refl _) (K3.out _)))
  refine wpQuiet_nil ?_
  rintro _ ⟨X, rfl⟩
  go_wp2
  go_ret2
  exact ⟨rfl, HBL.out.trans (X.2.mono HBL.out.size)⟩

/-- is a plan right? -/
def rareB (n m num den : Int) : Bool := decide (wrap64 (n * den) ≤ wrap64 (m * num))
def rightB (a0 a1 a2 a3 a4 a5 a6 p0 p1 : Int) : Bool := rareB (goodN a0 a1 p0 p1) (binom a0.toNat p0.toNat) a3 a4 && rareB (uptoN a0 a2 p0 p1) (binom a0.toNat p0.toNat) a5 a6

theorem rare_int (n m num den : Int) (W : World) : Calls Try.prog 68 #[.int .i64 n, .int .i64 m, .agg #[.int .i64 num, .int .i64 den]] W fun e W' => e = .returned (.bool (rareB n m num den)) ∧ Below W.heap.size W W' :=
  check_rare.calls n m num den _ W rfl

set_option maxHeartbeats 4000000 in
theorem right_any (b : Nat) (a0 a1 a2 a3 a4 a5 a6 p0 p1 : Int) (w : World) (hB : BenchAt w b a0 a1 a2 a3 a4 a5 a6) (ha : a0 ≤ 50) (h1 : 0 ≤ a1) (h2 : a1 ≤ a0) (h3 : 0 ≤ a2) (h4 : a2 ≤ a0) (h5 : 0 ≤ p0) (h6 : p0 ≤ a0) (h7 : 0 ≤ p1) (h8 : p1 ≤ p0) :
    Calls Try.prog 74 #[.pointer (some ⟨b, 0, none⟩), .agg #[.int .i64 p0, .int .i64 p1]] w
      fun e w' => e = .returned (.bool (rightB a0 a1 a2 a3 a4 a5 a6 p0 p1)) ∧ Below w.heap.size w w' := by
  have hs := cell_size hB.1
  obtain ⟨W, hW⟩ : ∃ W, W = w.alloc (.cells #[.int .i64 p0, .int .i64 p1] 48) := ⟨_, rfl⟩
  have hbl : Below w.heap.size w W := by rw [hW]; exact (Below.refl w.heap.size w).alloc (Nat.le_refl _) _
  have hB1 := bench_below hB hbl hs
  have d3 : W.cell? ⟨w.heap.size, 0, none⟩ = some (.int .i64 p0) := by rw [hW]; simp
  have d4 : W.cell? ⟨w.heap.size, 1, none⟩ = some (.int .i64 p1) := by rw [hW]; simp
  have HB1 := Lib.hid hB1
  have HBL := Lib.hid hbl
  have hs1 := cell_size hB1.1
  have hc := sides_any b a0 a1 a2 a3 a4 a5 a6 p0 p1 W hB1 ha h1 h2 h3 h4 h5 h6 h7 h8
  have HC := Lib.hid hc
  have hix : ∀ w', (Instr.index 82 (.agg (cellsOf (rowF a0.toNat))) (.int .i64 p0)).run Try.prog w' = .ok (.int .i64 (binom a0.toNat p0.toNat)) w' := fun w' => by
    obtain ⟨q, rfl⟩ := Int.eq_ofNat_of_zero_le h5
    exact run_index_agg w' row_under row_key row_cells (by omega) (cellsOf_get _ _ (by omega))
  have hk1 := fun W => choices_int a0 (by omega) ha W
  have K1 := Lib.hid hk1
  clear hk1 hB hB1 hbl hc h1 h2 h3 h4 h5 h6 h7 h8 ha
  go_enter Try.func74, Try.ntmps74
  go_wp2_with fail
  rw [← hW]
  clear hW
  refine HC.out.mono ?_
  rintro e w1 ⟨rfl, hb1⟩
  obtain ⟨c0, c1, c2, c3, c4, c5, c6⟩ := bench_below HB1.out hb1 hs1
  have d5 : w1.cell? ⟨w.heap.size, 0, none⟩ = some (.int .i64 p0) := by rw [hb1.cell (cell_size d3)]; exact d3
  have HB2 := Lib.hid (And.intro (HBL.out.trans (hb1.mono HBL.out.size)) (Nat.le_trans HBL.out.size hb1.size))
  have k0 := kept_cell' c0
  have k5 := kept_cell' d5
  have KK := Lib.hid (And.intro c3 (And.intro c4 (And.intro c5 c6)))
  clear hb1 d3 d4 d5 c0 c1 c2 c3 c4 c5 c6 hs1
  go_wp2_with fail
  refine wp_region_kept w1.heap.size w1 (by kernel_rfl) (by kernel_rfl) (Below.refl _ _) ?_
  repeat (go_big_quiet_step (with_reducible exact kept_calls _ (Nat.le_refl _) (K1.out _)))
  refine wpQuiet_nil ?_
  rintro _ ⟨X, rfl⟩
  obtain ⟨c3, c4, c5, c6⟩ := KK.out
  have c3 := kept_cell' c3 X
  have c4 := kept_cell' c4 X
  have hu27 := Try.underlying27
  have hx1 := kept_cell' c5 X
  have hx2 := kept_cell' c6 X
  have HX := Lib.hid (And.intro hx1 hx2)
  have HR := fun n m num den W => rare_int n m num den W
  have HR := Lib.hid HR
  have HE : Hid (rightB a0 a1 a2 a3 a4 a5 a6 p0 p1 = (rareB (goodN a0 a1 p0 p1) (binom a0.toNat p0.toNat) a3 a4 && rareB (uptoN a0 a2 p0 p1) (binom a0.toNat p0.toNat) a5 a6)) := Lib.hid rfl
  clear k0 k5 KK hx1 hx2 c5 c6 hix
  cases hb : rareB (goodN a0 a1 p0 p1) (binom a0.toNat p0.toNat) a3 a4
  · have HE' := Lib.hid (HE.out.trans (by rw [hb]; rfl : _ = false))
    have HQ := Lib.hid hb
    clear hb HE
    go_wp2_with fail
    refine (HR.out _ _ _ _ _).mono ?_
    rintro e w2 ⟨rfl, hb2⟩
    rw [HQ.out]
    have HB3 := Lib.hid hb2
    clear hb2
    go_wp2
    go_ret
    refine ⟨by rw [HE'.out]; rfl, HB2.out.1.trans ((X.2.mono HB2.out.2).trans (HB3.out.mono (Nat.le_trans HB2.out.2 X.2.size)))⟩
  · have HE' := Lib.hid (HE.out.trans (by rw [hb, Bool.true_and] : _ = rareB (uptoN a0 a2 p0 p1) (binom a0.toNat p0.toNat) a5 a6))
    have HQ := Lib.hid hb
    clear hb HE
    go_wp2_with fail
    refine (HR.out _ _ _ _ _).mono ?_
    rintro e w2 ⟨rfl, hb2⟩
    rw [HQ.out]
    have c5 : w2.cell? ⟨b, 5, none⟩ = some (.int .i64 a5) := by rw [hb2.cell (cell_size HX.out.1)]; exact HX.out.1
    have c6 : w2.cell? ⟨b, 6, none⟩ = some (.int .i64 a6) := by rw [hb2.cell (cell_size HX.out.2)]; exact HX.out.2
    have HB3 := Lib.hid hb2
    clear hb2
    go_wp2_with fail
    refine (HR.out _ _ _ _ _).mono ?_
    rintro e w3 ⟨rfl, hb3⟩
    have HB4 := Lib.hid hb3
    clear hb3
    go_wp2
    go_ret
    refine ⟨by rw [HE'.out]; rfl, HB2.out.1.trans ((X.2.mono HB2.out.2).trans ((HB3.out.mono (Nat.le_trans HB2.out.2 X.2.size)).trans (HB4.out.mono (Nat.le_trans (Nat.le_trans HB2.out.2 X.2.size) HB3.out.size))))⟩

/-- is a fraction a risk? -/
def riskOk (n d : Int) : Bool := decide (1 ≤ d ∧ d ≤ 1000 ∧ 0 ≤ n ∧ n ≤ (d - 1) / 2)
/-- what CheckTest comes to -/
def testN (a0 a1 a2 a3 a4 a5 a6 : Int) : Int := if 1 ≤ a0 ∧ a0 ≤ 50 ∧ 1 ≤ a2 ∧ a2 ≤ a0 ∧ 0 ≤ a1 ∧ a1 < a2 then (if riskOk a3 a4 && riskOk a5 a6 then 0 else 2) else 3
theorem wrap64_in {x : Int} (h : -9223372036854775808 ≤ x ∧ x ≤ 9223372036854775807) : wrap64 x = x := by unfold wrap64; omega
theorem isRisk_is (n d : Int) : check_isRisk.f n d = some (riskOk n d) := by
  unfold check_isRisk.f riskOk
  by_cases h1 : d ≥ 1
  · by_cases h2 : d ≤ 1000
    · by_cases h3 : n ≥ 0
      · rw [if_pos h1, if_pos h2, if_pos h3, wrap64_in (x := d - 1) (by omega), Int.tdiv_eq_ediv_of_nonneg (by omega), wrap64_in (by omega)]
        congr 1
        exact decide_eq_decide.2 ⟨fun h => ⟨h1, h2, h3, h⟩, fun h => h.2.2.2⟩
      · rw [if_pos h1, if_pos h2, if_neg h3]
        congr 1
        exact (decide_eq_false (by omega)).symm
    · rw [if_pos h1, if_neg h2]
      congr 1
      exact (decide_eq_false (by omega)).symm
  · rw [if_neg h1]
    congr 1
    exact (decide_eq_false (by omega)).symm
theorem within1_is (lo hi x : Int) : check_within.f lo hi [x] = some (decide (lo ≤ x ∧ x ≤ hi)) := by
  simp only [check_within.f, List.any_cons, List.any_nil, Bool.or_false, out_iff, Bool.not_not]
theorem checkTest_is (k : Nat) (a0 a1 a2 a3 a4 a5 a6 : Int) : check_CheckTest.f (k + 1) a0 a1 a2 a3 a4 a5 a6 = some (testN a0 a1 a2 a3 a4 a5 a6) := by
  unfold check_CheckTest.f check_CheckTest.j0 testN
  simp only [within1_is, isRisk_is, Option.bind_some]
  by_cases h1 : 1 ≤ a0 ∧ a0 ≤ 50
  · by_cases h2 : 1 ≤ a2 ∧ a2 ≤ a0
    · by_cases h3 : 0 ≤ a1 ∧ a1 ≤ a2 - 1
      · rw [wrap64_in (x := a2 - 1) (by omega), if_pos (show 1 ≤ a0 ∧ a0 ≤ 50 ∧ 1 ≤ a2 ∧ a2 ≤ a0 ∧ 0 ≤ a1 ∧ a1 < a2 by omega)]
        simp only [h1, h2, h3, and_self, decide_true, if_true, Bool.not_true, Bool.false_eq_true, if_false]
        cases riskOk a3 a4 <;> cases riskOk a5 a6 <;> rfl
      · rw [wrap64_in (x := a2 - 1) (by omega), if_neg (show ¬ (1 ≤ a0 ∧ a0 ≤ 50 ∧ 1 ≤ a2 ∧ a2 ≤ a0 ∧ 0 ≤ a1 ∧ a1 < a2) by omega)]
        simp only [h1, h2, h3, and_self, decide_true, decide_false, if_true, Bool.not_false]
    · rw [if_neg (show ¬ (1 ≤ a0 ∧ a0 ≤ 50 ∧ 1 ≤ a2 ∧ a2 ≤ a0 ∧ 0 ≤ a1 ∧ a1 < a2) by omega)]
      simp only [h1, h2, and_self, decide_true, decide_false, if_true, Bool.false_eq_true, if_false]
  · rw [if_neg (show ¬ (1 ≤ a0 ∧ a0 ≤ 50 ∧ 1 ≤ a2 ∧ a2 ≤ a0 ∧ 0 ≤ a1 ∧ a1 < a2) by omega)]
    simp only [h1, decide_false, Bool.false_eq_true, if_false, if_true]
theorem checkTest_int (a0 a1 a2 a3 a4 a5 a6 : Int) (w : World) : Calls Try.prog 37 #[.agg #[.int .i64 a0, .int .i64 a1, .int .i64 a2, .int .i64 a3, .int .i64 a4, .int .i64 a5, .int .i64 a6]] w
    fun e w' => e = .returned (.int .i64 (testN a0 a1 a2 a3 a4 a5 a6)) ∧ Below w.heap.size w w' :=
  check_CheckTest.calls 1 a0 a1 a2 a3 a4 a5 a6 _ w (checkTest_is 0 a0 a1 a2 a3 a4 a5 a6)
theorem test_in {a0 a1 a2 a3 a4 a5 a6 : Int} (h : testN a0 a1 a2 a3 a4 a5 a6 = 0) : 1 ≤ a0 ∧ a0 ≤ 50 ∧ 1 ≤ a2 ∧ a2 ≤ a0 ∧ 0 ≤ a1 ∧ a1 < a2 ∧ riskOk a3 a4 = true ∧ riskOk a5 a6 = true := by
  unfold testN at h
  split at h
  · rename_i g
    split at h
    · rename_i g'
      rw [Bool.and_eq_true] at g'
      exact ⟨g.1, g.2.1, g.2.2.1, g.2.2.2.1, g.2.2.2.2.1, g.2.2.2.2.2, g'.1, g'.2⟩
    · exact absurd h (by decide)
  · exact absurd h (by decide)

/-- are a plan's numbers as described? -/
def planOk (a0 p0 p1 : Int) : Bool := !outB 0 a0 p0 && !outB 0 p0 p1
/-- open's error -/
def openN (a0 a1 a2 a3 a4 a5 a6 p0 p1 : Int) : Int := if testN a0 a1 a2 a3 a4 a5 a6 = 0 then (if planOk a0 p0 p1 then 0 else 3) else testN a0 a1 a2 a3 a4 a5 a6

set_option maxHeartbeats 4000000 in
theorem open_test (a0 a1 a2 a3 a4 a5 a6 p0 p1 : Int) (w : World) (ht : testN a0 a1 a2 a3 a4 a5 a6 ≠ 0) :
    Calls Try.prog 72 #[.agg #[.int .i64 a0, .int .i64 a1, .int .i64 a2, .int .i64 a3, .int .i64 a4, .int .i64 a5, .int .i64 a6], .agg #[.int .i64 p0, .int .i64 p1]] w
      fun e w' => e = .returned (.tuple #[.pointer none, .int .i64 (testN a0 a1 a2 a3 a4 a5 a6)]) ∧ Below w.heap.size w w' := by
  have hc := fun W => checkTest_int a0 a1 a2 a3 a4 a5 a6 W
  have HC := Lib.hid hc
  clear hc
  obtain ⟨t, htt⟩ : ∃ t, t = testN a0 a1 a2 a3 a4 a5 a6 := ⟨_, rfl⟩
  rw [← htt] at ht HC ⊢
  clear htt
  have hb1 : (t != 0) = true := bne_iff_ne.2 ht
  clear ht
  go_enter Try.func72, Try.ntmps72
  go_wp2_with fail
  refine (HC.out _).mono ?_
  rintro e w1 ⟨rfl, hw1⟩
  have HW1 := Lib.hid hw1
  clear hw1
  go_wp2
  go_ret2
  exact ⟨rfl, (((Below.refl _ _).alloc (Nat.le_refl _) _).alloc (by simp) _).trans (HW1.out.mono (by simp; omega))⟩

theorem plan_in {a0 p0 p1 : Int} (h : planOk a0 p0 p1 = true) : 0 ≤ p0 ∧ p0 ≤ a0 ∧ 0 ≤ p1 ∧ p1 ≤ p0 := by
  simp only [planOk, Bool.and_eq_true, Bool.not_eq_true'] at h
  obtain ⟨h1, h2⟩ := h
  have := out_in h1; have := out_in h2; omega

set_option maxHeartbeats 4000000 in
theorem open_plan (a0 a1 a2 a3 a4 a5 a6 p0 p1 : Int) (w : World) (ht : testN a0 a1 a2 a3 a4 a5 a6 = 0) (hp : planOk a0 p0 p1 = false) :
    Calls Try.prog 72 #[.agg #[.int .i64 a0, .int .i64 a1, .int .i64 a2, .int .i64 a3, .int .i64 a4, .int .i64 a5, .int .i64 a6], .agg #[.int .i64 p0, .int .i64 p1]] w
      fun e w' => e = .returned (.tuple #[.pointer none, .int .i64 3]) ∧ Below w.heap.size w w' := by
  have hc := fun W => checkTest_int a0 a1 a2 a3 a4 a5 a6 W
  rw [ht] at hc
  have HC := Lib.hid hc
  clear hc ht
  obtain ⟨W, hW⟩ : ∃ W, W = (w.alloc (.cells #[.int .i64 a0, .int .i64 a1, .int .i64 a2, .int .i64 a3, .int .i64 a4, .int .i64 a5, .int .i64 a6] 46)).alloc (.cells #[.int .i64 p0, .int .i64 p1] 48) := ⟨_, rfl⟩
  have hbl : Below w.heap.size w W := by rw [hW]; exact ((Below.refl w.heap.size w).alloc (Nat.le_refl _) _).alloc (by simp) _
  have d0 : W.cell? ⟨w.heap.size, 0, none⟩ = some (.int .i64 a0) := by rw [hW]; simp [go_sem]
  have d3 : W.cell? ⟨w.heap.size + 1, 0, none⟩ = some (.int .i64 p0) := by rw [hW]; simp
  have d4 : W.cell? ⟨w.heap.size + 1, 1, none⟩ = some (.int .i64 p1) := by rw [hW]; simp
  have HBL := Lib.hid hbl
  have H1 := Lib.hid (fun w' => within1 0 a0 p0 w')
  have H2 := Lib.hid (fun w' => within1 0 p0 p1 w')
  clear hbl
  go_enter Try.func72, Try.ntmps72
  go_wp2_with fail
  rw [← hW]
  clear hW
  refine (HC.out _).mono ?_
  rintro e w1 ⟨rfl, hw1⟩
  have e0 : w1.cell? ⟨w.heap.size, 0, none⟩ = some (.int .i64 a0) := by rw [hw1.cell (cell_size d0)]; exact d0
  have e3 : w1.cell? ⟨w.heap.size + 1, 0, none⟩ = some (.int .i64 p0) := by rw [hw1.cell (cell_size d3)]; exact d3
  have e4 : w1.cell? ⟨w.heap.size + 1, 1, none⟩ = some (.int .i64 p1) := by rw [hw1.cell (cell_size d4)]; exact d4
  have HW1 := Lib.hid (HBL.out.trans (hw1.mono HBL.out.size))
  clear hw1 d0 d3 d4 HBL HC
  cases hq : outB 0 a0 p0
  · have hq2 : outB 0 p0 p1 = true := by rw [planOk, hq] at hp; simpa using hp
    have Q1 := Lib.hid hq
    have Q2 := Lib.hid hq2
    clear hq hq2 hp
    go_wp2_with fail
    refine (H1.out _).mono ?_
    rintro e w2 ⟨rfl, hw2⟩
    rw [Q1.out]
    have f3 : w2.cell? ⟨w.heap.size + 1, 0, none⟩ = some (.int .i64 p0) := by rw [hw2.cell (cell_size e3)]; exact e3
    have f4 : w2.cell? ⟨w.heap.size + 1, 1, none⟩ = some (.int .i64 p1) := by rw [hw2.cell (cell_size e4)]; exact e4
    have HW2 := Lib.hid (HW1.out.trans (hw2.mono HW1.out.size))
    clear hw2 e0 e3 e4 HW1
    go_wp2_with fail
    refine (H2.out _).mono ?_
    rintro e w3 ⟨rfl, hw3⟩
    rw [Q2.out]
    have HW3 := Lib.hid (HW2.out.trans (hw3.mono HW2.out.size))
    clear hw3 f3 f4 HW2
    go_wp2
    go_ret2
    exact ⟨rfl, HW3.out⟩
  · have Q1 := Lib.hid hq
    clear hq hp
    go_wp2_with fail
    refine (H1.out _).mono ?_
    rintro e w2 ⟨rfl, hw2⟩
    rw [Q1.out]
    have HW2 := Lib.hid (HW1.out.trans (hw2.mono HW1.out.size))
    clear hw2 e0 e3 e4 HW1
    go_wp2
    go_ret2
    exact ⟨rfl, HW2.out⟩

set_option maxHeartbeats 4000000 in
theorem open_good (a0 a1 a2 a3 a4 a5 a6 p0 p1 : Int) (w : World) (ht : testN a0 a1 a2 a3 a4 a5 a6 = 0) (hp : planOk a0 p0 p1 = true) :
    Calls Try.prog 72 #[.agg #[.int .i64 a0, .int .i64 a1, .int .i64 a2, .int .i64 a3, .int .i64 a4, .int .i64 a5, .int .i64 a6], .agg #[.int .i64 p0, .int .i64 p1]] w
      fun e w' => ∃ b, e = .returned (.tuple #[.pointer (some ⟨b, 0, none⟩), .int .i64 0]) ∧ BenchAt w' b a0 a1 a2 a3 a4 a5 a6 ∧ Below w.heap.size w w' := by
  have hc := fun W => checkTest_int a0 a1 a2 a3 a4 a5 a6 W
  rw [ht] at hc
  have HC := Lib.hid hc
  clear hc ht
  obtain ⟨W, hW⟩ : ∃ W, W = (w.alloc (.cells #[.int .i64 a0, .int .i64 a1, .int .i64 a2, .int .i64 a3, .int .i64 a4, .int .i64 a5, .int .i64 a6] 46)).alloc (.cells #[.int .i64 p0, .int .i64 p1] 48) := ⟨_, rfl⟩
  have hbl : Below w.heap.size w W := by rw [hW]; exact ((Below.refl w.heap.size w).alloc (Nat.le_refl _) _).alloc (by simp) _
  have hB : BenchAt W w.heap.size a0 a1 a2 a3 a4 a5 a6 := by rw [hW]; refine ⟨?_, ?_, ?_, ?_, ?_, ?_, ?_⟩ <;> simp [go_sem]
  have d3 : W.cell? ⟨w.heap.size + 1, 0, none⟩ = some (.int .i64 p0) := by rw [hW]; simp
  have d4 : W.cell? ⟨w.heap.size + 1, 1, none⟩ = some (.int .i64 p1) := by rw [hW]; simp
  have HB := Lib.hid hB
  have d0 := hB.1
  have HBL := Lib.hid hbl
  have H1 := Lib.hid (fun w' => within1 0 a0 p0 w')
  have H2 := Lib.hid (fun w' => within1 0 p0 p1 w')
  simp only [planOk, Bool.and_eq_true, Bool.not_eq_true'] at hp
  have Q1 := Lib.hid hp.1
  have Q2 := Lib.hid hp.2
  clear hbl hp hB
  go_enter Try.func72, Try.ntmps72
  go_wp2_with fail
  rw [← hW]
  clear hW
  refine (HC.out _).mono ?_
  rintro e w1 ⟨rfl, hw1⟩
  have e0 : w1.cell? ⟨w.heap.size, 0, none⟩ = some (.int .i64 a0) := by rw [hw1.cell (cell_size d0)]; exact d0
  have e3 : w1.cell? ⟨w.heap.size + 1, 0, none⟩ = some (.int .i64 p0) := by rw [hw1.cell (cell_size d3)]; exact d3
  have e4 : w1.cell? ⟨w.heap.size + 1, 1, none⟩ = some (.int .i64 p1) := by rw [hw1.cell (cell_size d4)]; exact d4
  have HB1 := Lib.hid (bench_below HB.out hw1 (cell_size d0))
  have HW1 := Lib.hid (HBL.out.trans (hw1.mono HBL.out.size))
  clear hw1 d0 d3 d4 HBL HC HB
  go_wp2_with fail
  refine (H1.out _).mono ?_
  rintro e w2 ⟨rfl, hw2⟩
  rw [Q1.out]
  have f3 : w2.cell? ⟨w.heap.size + 1, 0, none⟩ = some (.int .i64 p0) := by rw [hw2.cell (cell_size e3)]; exact e3
  have f4 : w2.cell? ⟨w.heap.size + 1, 1, none⟩ = some (.int .i64 p1) := by rw [hw2.cell (cell_size e4)]; exact e4
  have HB2 := Lib.hid (bench_below HB1.out hw2 (cell_size e0))
  have HW2 := Lib.hid (HW1.out.trans (hw2.mono HW1.out.size))
  clear hw2 e0 e3 e4 HW1 HB1
  go_wp2_with fail
  refine (H2.out _).mono ?_
  rintro e w3 ⟨rfl, hw3⟩
  rw [Q2.out]
  have hb3 := bench_below HB2.out hw3 (cell_size HB2.out.1)
  obtain ⟨g0, g1, g2, g3, g4, g5, g6⟩ := hb3
  have HW3 := Lib.hid (HW2.out.trans (hw3.mono HW2.out.size))
  have hu46 := Try.underlying46
  have hu27 := Try.underlying27
  clear hw3 f3 f4 HW2
  go_wp2
  go_ret2
  exact ⟨_, rfl, by refine ⟨?_, ?_, ?_, ?_, ?_, ?_, ?_⟩ <;> simp [go_sem], HW3.out.alloc HW3.out.size _⟩
end Go.Proofs.Ytmgdidhhgdpobaa.Hand

/- CheckPlanned's function: its walk, for a valid test. -/

import Derived.Test.YtmgdidhhgdpobaaHLess
import Derived.Test.YtmgdidhhgdpobaaHRefs
import Derived.Test.YtmgdidhhgdpobaaHD
import Derived.Test.YtmgdidhhgdpobaaHWorks
namespace Go.Proofs.Ytmgdidhhgdpobaa.Hand
set_option linter.unusedVariables false
set_option linter.unusedSimpArgs false
open Go.RowKit Go.Maps Go.Proofs.YtmgdidhhgdpobaaW.PrintWords Go.Proofs.YtmgdidhhgdpobaaW.PrintLast Go.Proofs.YtmgdidhhgdpobaaW.PrintMore Go.Proofs.Ytmgdidhhgdpobaa.PrA Go.Proofs.Ytmgdidhhgdpobaa.PrC Go.Proofs.Ytmgdidhhgdpobaa.PrD Go.Proofs.Ytmgdidhhgdpobaa.PrR Go.Proofs.Ytmgdidhhgdpobaa.PrV Go.Proofs.Ytmgdidhhgdpobaa.PrT

/-- a block of a test, of a plan -/
def Sev (w : World) (k a g b n1 d1 n2 d2 : Nat) : Prop := w.heap[k]? = some (.cells #[.int .i64 a, .int .i64 g, .int .i64 b, .int .i64 n1, .int .i64 d1, .int .i64 n2, .int .i64 d2] 46 (0, 0))
def Pla (w : World) (k x y : Nat) : Prop := w.heap[k]? = some (.cells #[.int .i64 x, .int .i64 y] 48 (0, 0))
theorem sev_cell {w : World} {k a g b n1 d1 n2 d2 : Nat} (h : Sev w k a g b n1 d1 n2 d2) : w.cell? ⟨k, 0, none⟩ = some (.int .i64 a) ∧ w.cell? ⟨k, 1, none⟩ = some (.int .i64 g) ∧ w.cell? ⟨k, 2, none⟩ = some (.int .i64 b) ∧ w.cell? ⟨k, 3, none⟩ = some (.int .i64 n1) ∧ w.cell? ⟨k, 4, none⟩ = some (.int .i64 d1) ∧ w.cell? ⟨k, 5, none⟩ = some (.int .i64 n2) ∧ w.cell? ⟨k, 6, none⟩ = some (.int .i64 d2) := by
  unfold Sev at h
  simp [World.cell?, h]
theorem sev_free {w : World} {k a g b n1 d1 n2 d2 : Nat} (h : Sev w k a g b n1 d1 n2 d2) (j : Nat) : w.frozen? ⟨k, j, none⟩ = false := by
  unfold Sev at h
  simp [World.frozen?, h]
theorem pla_cell {w : World} {k x y : Nat} (h : Pla w k x y) : w.cell? ⟨k, 0, none⟩ = some (.int .i64 x) ∧ w.cell? ⟨k, 1, none⟩ = some (.int .i64 y) ∧ w.frozen? ⟨k, 0, none⟩ = false ∧ w.frozen? ⟨k, 1, none⟩ = false := by
  unfold Pla at h
  simp [World.cell?, World.frozen?, h]
theorem sev_step {w w' : World} {k a g b n1 d1 n2 d2 : Nat} (h : Sev w k a g b n1 d1 n2 d2) (hb : Below w.heap.size w w') : Sev w' k a g b n1 d1 n2 d2 := by
  have hn := cell_size (sev_cell h).1
  unfold Sev at *; rw [hb.block k hn]; exact h
theorem pla_step {w w' : World} {k x y : Nat} (h : Pla w k x y) (hb : Below w.heap.size w w') : Pla w' k x y := by
  have hn := cell_size (pla_cell h).1
  unfold Pla at *; rw [hb.block k hn]; exact h

set_option maxHeartbeats 16000000 in
set_option maxRecDepth 100000 in
theorem planned_any (a g b n1 d1 n2 d2 y1 y2 y3 y4 : Nat) (W : World) (s t A B C K u v p q e3 e4 m1 m2 g' b' : Nat) (hg' : (g : Int) - (e3 : Int) = (g' : Int)) (hb' : (b : Int) + (e4 : Int) = (b' : Int)) (c : Int) (ha : 1 ≤ a ∧ a ≤ 50) (hg : g < b ∧ b ≤ a) (hn1 : 2 * n1 < d1 ∧ d1 ≤ 1000) (hn2 : 2 * n2 < d2 ∧ d2 ≤ 1000) (hy : y1 ≤ 255 ∧ y2 ≤ 255 ∧ y3 ≤ 255 ∧ y4 ≤ 255)
    (hT : peaveyref10_CheckTest.f K a g b n1 d1 n2 d2 = some 0) (hP : check_Plan.f a g b n1 d1 n2 d2 = some ((s : Int), (t : Int), 0)) (hPl : peaveyref10_Planned.f K a g b n1 d1 n2 d2 s t = some 0) (hCP : check_CheckPlan.f a g b n1 d1 n2 d2 s t = some 0)
    (hSi : check_Sides.f a g b n1 d1 n2 d2 s t = some ((A : Int), (B : Int), 0)) (hCh : check_Choose.f a s = some ((C : Int), 0)) (hCr : peaveyref10_Choices.f K a s = some (C : Int)) (hA : A ≤ C) (hB : B ≤ C) (hR1 : rareB A C n1 d1 = true) (hR2 : rareB B C n2 d2 = true)
    (hu : (y1 : Int) % ((a : Int) + 1) = (u : Int)) (hua : u ≤ a) (hv : (y2 : Int) % ((u : Int) + 1) = (v : Int)) (hc1 : check_CheckPlan.f a g b n1 d1 n2 d2 u v = some c) (hc2 : peaveyref10_CheckPlan.f K a g b n1 d1 n2 d2 u v = some c)
    (hcase : (c = 0 ∧ ¬ u < s ∧ (u = s → ¬ v < t) ∧ p = u ∧ q = v) ∨ (c = 13 ∧ p = s ∧ q = t)) (h3 : (y3 : Int) % ((g : Int) + 1) = (e3 : Int)) (h3' : e3 ≤ g) (h4 : (y4 : Int) % ((a : Int) - (b : Int) + 1) = (e4 : Int)) (h4' : e4 ≤ a - b)
    (hm1 : m1 = if 2 * (n1 + 1) < d1 then n1 + 1 else n1) (hm2 : m2 = if 2 * (n2 + 1) < d2 then n2 + 1 else n2) (hF : check_CheckPlan.f a (g' : Int) (b' : Int) m1 d1 m2 d2 p q = some 0) :
    Calls Try.prog 13 #[.agg #[.int .i64 a, .int .i64 g, .int .i64 b, .int .i64 n1, .int .i64 d1, .int .i64 n2, .int .i64 d2], .int .u8 y1, .int .u8 y2, .int .u8 y3, .int .u8 y4] W fun e W' => e = .returned (.bool true) ∧ Below W.heap.size W W' := by
  have hu46 := Try.underlying46
  have hu48 := Try.underlying48
  have hu27 := Try.underlying27
  have HT := Lib.hid (fun X => peaveyref10_CheckTest.calls K a g b n1 d1 n2 d2 0 X hT)
  have HP := Lib.hid (fun X => check_Plan.calls a g b n1 d1 n2 d2 s t 0 X hP)
  have HPL := Lib.hid (fun X => peaveyref10_Planned.calls K a g b n1 d1 n2 d2 s t 0 X hPl)
  have HCP := Lib.hid (fun X => check_CheckPlan.calls a g b n1 d1 n2 d2 s t 0 X hCP)
  have HSI := Lib.hid (fun X => check_Sides.calls a g b n1 d1 n2 d2 s t A B 0 X hSi)
  have HCH := Lib.hid (fun X => check_Choose.calls a s C 0 X hCh)
  have HCR := Lib.hid (fun X => peaveyref10_Choices.calls K a s C X hCr)
  have HRA := Lib.hid (fun X => peaveyref10_Rare.calls A C n1 d1 true X (by rw [rare_ref, hR1]))
  have HRB := Lib.hid (fun X => peaveyref10_Rare.calls B C n2 d2 true X (by rw [rare_ref, hR2]))
  have HC1 := Lib.hid (fun X => check_CheckPlan.calls a g b n1 d1 n2 d2 u v c X hc1)
  have HC2 := Lib.hid (fun X => peaveyref10_CheckPlan.calls K a g b n1 d1 n2 d2 u v c X hc2)
  have HF := Lib.hid (fun X => check_CheckPlan.calls a (g' : Int) (b' : Int) m1 d1 m2 d2 p q 0 X hF)
  have HPN := Lib.hid (fun X => peaveylaw10_plan.calls u 0 u 0 X rfl)
  have HGB := Lib.hid (And.intro hg' hb')
  have HQ := Lib.hid (And.intro hcase (And.intro hm1 (And.intro hm2 (And.intro hu (And.intro hv (And.intro h3 h4))))))
  clear hg' hb' hT hP hPl hCP hSi hCh hCr hR1 hR2 hc1 hc2 hF hcase hm1 hm2 hu hv h3 h4
  go_enter Try.func13, Try.ntmps13
  go_upto_region 1 with (fail)
  obtain ⟨w1, hw⟩ : ∃ X, X = W.alloc (.cells #[.int .i64 a, .int .i64 g, .int .i64 b, .int .i64 n1, .int .i64 d1, .int .i64 n2, .int .i64 d2] 46) := ⟨_, rfl⟩
  rw [← hw]
  have hb : Below W.heap.size W w1 := by rw [hw]; exact (Below.refl _ _).alloc (Nat.le_refl _) _
  have S5 := Lib.hid (show Sev w1 W.heap.size a g b n1 d1 n2 d2 from by rw [hw]; exact (MapKept.heap_alloc W _).1)
  clear hw
  have HB := Lib.hid hb
  clear hb
  obtain ⟨c0, c1, c2, c3, c4, c5, c6⟩ := sev_cell S5.out
  go_wp2_with fail
  refine (HT.out _).mono ?_
  rintro e w2 ⟨rfl, hb⟩
  have HB := Lib.hid (HB.out.trans (hb.mono HB.out.size))
  have S5 := Lib.hid (sev_step S5.out hb)
  clear hb
  clear c0 c1 c2 c3 c4 c5 c6
  obtain ⟨c0, c1, c2, c3, c4, c5, c6⟩ := sev_cell S5.out
  go_wp2_with fail
  refine (HP.out _).mono ?_
  rintro e w3 ⟨rfl, hb⟩
  have HB := Lib.hid (HB.out.trans (hb.mono HB.out.size))
  have S5 := Lib.hid (sev_step S5.out hb)
  clear hb
  clear c0 c1 c2 c3 c4 c5 c6
  go_upto_region 4 with (fail)
  obtain ⟨w4, hw⟩ : ∃ X, X = w3.alloc (.cells #[.int .i64 s, .int .i64 t] 48) := ⟨_, rfl⟩
  rw [← hw]
  have hb : Below w3.heap.size w3 w4 := by rw [hw]; exact (Below.refl _ _).alloc (Nat.le_refl _) _
  have P1 := Lib.hid (show Pla w4 w3.heap.size s t from by rw [hw]; exact (MapKept.heap_alloc w3 _).1)
  clear hw
  have HB := Lib.hid (HB.out.trans (hb.mono HB.out.size))
  have S5 := Lib.hid (sev_step S5.out hb)
  clear hb
  obtain ⟨g11, hg11⟩ : ∃ k, k = w3.heap.size := ⟨_, rfl⟩
  rw [← hg11]
  rw [← hg11] at P1
  clear hg11
  obtain ⟨c0, c1, c2, c3, c4, c5, c6⟩ := sev_cell S5.out
  obtain ⟨k0, k1, -, -⟩ := pla_cell P1.out
  go_wp2_with fail
  refine (HPL.out _).mono ?_
  rintro e w5 ⟨rfl, hb⟩
  have HB := Lib.hid (HB.out.trans (hb.mono HB.out.size))
  have S5 := Lib.hid (sev_step S5.out hb)
  have P1 := Lib.hid (pla_step P1.out hb)
  clear hb
  clear c0 c1 c2 c3 c4 c5 c6
  clear k0 k1
  obtain ⟨c0, c1, c2, c3, c4, c5, c6⟩ := sev_cell S5.out
  obtain ⟨k0, k1, -, -⟩ := pla_cell P1.out
  go_wp2_with fail
  refine (HCP.out _).mono ?_
  rintro e w6 ⟨rfl, hb⟩
  have HB := Lib.hid (HB.out.trans (hb.mono HB.out.size))
  have S5 := Lib.hid (sev_step S5.out hb)
  have P1 := Lib.hid (pla_step P1.out hb)
  clear hb
  clear c0 c1 c2 c3 c4 c5 c6
  clear k0 k1
  obtain ⟨c0, c1, c2, c3, c4, c5, c6⟩ := sev_cell S5.out
  obtain ⟨k0, k1, -, -⟩ := pla_cell P1.out
  go_wp2_with fail
  refine (HSI.out _).mono ?_
  rintro e w7 ⟨rfl, hb⟩
  have HB := Lib.hid (HB.out.trans (hb.mono HB.out.size))
  have S5 := Lib.hid (sev_step S5.out hb)
  have P1 := Lib.hid (pla_step P1.out hb)
  clear hb
  clear c0 c1 c2 c3 c4 c5 c6
  clear k0 k1
  obtain ⟨c0, c1, c2, c3, c4, c5, c6⟩ := sev_cell S5.out
  obtain ⟨k0, k1, -, -⟩ := pla_cell P1.out
  go_wp2_with fail
  refine (HCH.out _).mono ?_
  rintro e w8 ⟨rfl, hb⟩
  have HB := Lib.hid (HB.out.trans (hb.mono HB.out.size))
  have S5 := Lib.hid (sev_step S5.out hb)
  have P1 := Lib.hid (pla_step P1.out hb)
  clear hb
  clear c0 c1 c2 c3 c4 c5 c6
  clear k0 k1
  obtain ⟨c0, c1, c2, c3, c4, c5, c6⟩ := sev_cell S5.out
  obtain ⟨k0, k1, -, -⟩ := pla_cell P1.out
  go_wp2_with fail
  refine (HCR.out _).mono ?_
  rintro e w9 ⟨rfl, ⟨nd, rfl⟩⟩
  clear c0 c1 c2 c3 c4 c5 c6
  clear k0 k1
  have t1 : decide ((A : Int) < 0) = false := decide_eq_false (by omega)
  have t2 : decide (C < A) = false := decide_eq_false (by omega)
  have t3 : decide ((B : Int) < 0) = false := decide_eq_false (by omega)
  have t4 : decide (C < B) = false := decide_eq_false (by omega)
  obtain ⟨c0, c1, c2, c3, c4, c5, c6⟩ := sev_cell S5.out
  go_wp2_with fail
  refine (HRA.out _).mono ?_
  rintro e w10 ⟨rfl, hb⟩
  have hb := (below_drewN (Below.refl w8.heap.size w8) nd).trans (hb.mono (below_drewN (Below.refl w8.heap.size w8) nd).size)
  have HB := Lib.hid (HB.out.trans (hb.mono HB.out.size))
  have S5 := Lib.hid (sev_step S5.out hb)
  have P1 := Lib.hid (pla_step P1.out hb)
  clear hb
  clear c0 c1 c2 c3 c4 c5 c6
  obtain ⟨c0, c1, c2, c3, c4, c5, c6⟩ := sev_cell S5.out
  go_wp2_with fail
  refine (HRB.out _).mono ?_
  rintro e w11 ⟨rfl, hb⟩
  have HB := Lib.hid (HB.out.trans (hb.mono HB.out.size))
  have S5 := Lib.hid (sev_step S5.out hb)
  have P1 := Lib.hid (pla_step P1.out hb)
  clear hb
  clear c0 c1 c2 c3 c4 c5 c6
  clear t1 t2 t3 t4
  obtain ⟨hcase, hm1, hm2, hu, hv, h3, h4⟩ := HQ.out
  have HQ2 := Lib.hid (And.intro hcase (And.intro hm1 (And.intro hm2 (And.intro hv (And.intro h3 h4)))))
  clear hcase hm1 hm2 hv h3 h4
  obtain ⟨c0, c1, c2, c3, c4, c5, c6⟩ := sev_cell S5.out
  go_wp2_with fail
  refine (HPN.out _).mono ?_
  rintro e w12 ⟨rfl, hb⟩
  have HB := Lib.hid (HB.out.trans (hb.mono HB.out.size))
  have S5 := Lib.hid (sev_step S5.out hb)
  have P1 := Lib.hid (pla_step P1.out hb)
  clear hb
  clear c0 c1 c2 c3 c4 c5 c6
  clear hu
  go_upto_region 11 with (fail)
  obtain ⟨N5, N1, GE⟩ : Hid (W.heap.size ≠ w12.heap.size) ∧ Hid (g11 ≠ w12.heap.size) ∧ Hid (W.heap.size ≤ w12.heap.size) := ⟨Nat.ne_of_lt (cell_size (sev_cell S5.out).1), Nat.ne_of_lt (cell_size (pla_cell P1.out).1), HB.out.size⟩
  obtain ⟨w13, hw⟩ : ∃ X, X = w12.alloc (.cells #[.int .i64 u, .int .i64 0] 48) := ⟨_, rfl⟩
  rw [← hw]
  have hb : Below w12.heap.size w12 w13 := by rw [hw]; exact (Below.refl _ _).alloc (Nat.le_refl _) _
  have P2 := Lib.hid (show Pla w13 w12.heap.size u 0 from by rw [hw]; exact (MapKept.heap_alloc w12 _).1)
  clear hw
  have HB := Lib.hid (HB.out.trans (hb.mono HB.out.size))
  have S5 := Lib.hid (sev_step S5.out hb)
  have P1 := Lib.hid (pla_step P1.out hb)
  clear hb
  obtain ⟨g18, hg18⟩ : ∃ k, k = w12.heap.size := ⟨_, rfl⟩
  rw [← hg18]
  rw [← hg18] at P2 N5 N1 GE
  clear hg18
  obtain ⟨hcase, hm1, hm2, hv, h3, h4⟩ := HQ2.out
  have HQ3 := Lib.hid (And.intro hcase (And.intro hm1 (And.intro hm2 (And.intro h3 h4))))
  clear hcase hm1 hm2 h3 h4
  obtain ⟨k2, k3, k4, k5⟩ := pla_cell P2.out
  go_upto_region 12 with (fail)
  clear k2 k3 k4 k5 hv
  obtain ⟨w14, hw⟩ : ∃ X, X = (w13.setCell ⟨g18, 1, none⟩ (.int .i64 v)) := ⟨_, rfl⟩
  rw [← hw]
  have S5 := Lib.hid (show Sev w14 W.heap.size a g b n1 d1 n2 d2 from by rw [hw]; unfold Sev; rw [block_other N5.out]; have h := S5.out; unfold Sev at h; exact h)
  have P1 := Lib.hid (show Pla w14 g11 s t from by rw [hw]; unfold Pla; rw [block_other N1.out]; have h := P1.out; unfold Pla at h; exact h)
  have P2 := Lib.hid (show Pla w14 g18 u v from by rw [hw]; exact heap_setCell_same _ g18 1 _ _ _ P2.out)
  have HB := Lib.hid (show Below W.heap.size W w14 from by rw [hw]; exact (HB.out.setCell GE.out _))
  clear hw
  obtain ⟨c0, c1, c2, c3, c4, c5, c6⟩ := sev_cell S5.out
  obtain ⟨k2, k3, -, -⟩ := pla_cell P2.out
  go_wp2_with fail
  refine (HC1.out _).mono ?_
  rintro e w15 ⟨rfl, hb⟩
  have HB := Lib.hid (HB.out.trans (hb.mono HB.out.size))
  have S5 := Lib.hid (sev_step S5.out hb)
  have P1 := Lib.hid (pla_step P1.out hb)
  have P2 := Lib.hid (pla_step P2.out hb)
  clear hb
  clear c0 c1 c2 c3 c4 c5 c6
  clear k2 k3
  obtain ⟨hcase, hm1, hm2, h3, h4⟩ := HQ3.out
  have HQ4 := Lib.hid (And.intro hm1 (And.intro hm2 (And.intro h3 h4)))
  have HCS := Lib.hid hcase
  clear hm1 hm2 h3 h4 hcase
  go_upto_region 13 with (fail)
  go_cut [153] (fun v153 wc => v153 = .bool false ∧ Hid (Sev wc W.heap.size a g b n1 d1 n2 d2) ∧ Hid (Pla wc g11 s t) ∧ Hid (Pla wc g18 u v) ∧ Hid (Below W.heap.size W wc))
  case first =>
    obtain ⟨c0, c1, c2, c3, c4, c5, c6⟩ := sev_cell S5.out
    obtain ⟨k2, k3, -, -⟩ := pla_cell P2.out
    go_wp2_with fail
    refine (HC2.out _).mono ?_
    rintro e w16 ⟨rfl, hb⟩
    have HB := Lib.hid (HB.out.trans (hb.mono HB.out.size))
    have S5 := Lib.hid (sev_step S5.out hb)
    have P1 := Lib.hid (pla_step P1.out hb)
    have P2 := Lib.hid (pla_step P2.out hb)
    clear hb
    clear c0 c1 c2 c3 c4 c5 c6
    clear k2 k3
    obtain ⟨k0, k1, -, -⟩ := pla_cell P1.out
    obtain ⟨k2, k3, k4, k5⟩ := pla_cell P2.out
    have hcs : (c = 0 ∧ decide (u < s) = false ∧ ((u : Int) == (s : Int)) = true ∧ decide (v < t) = false) ∨ (c = 0 ∧ decide (u < s) = false ∧ ((u : Int) == (s : Int)) = false) ∨ c = 13 := by
      rcases HCS.out with ⟨q1, q2, q3, q4, q5⟩ | q1
      · by_cases hus : u = s
        · exact .inl ⟨q1, decide_eq_false q2, beq_iff_eq.2 (by omega), decide_eq_false (q3 hus)⟩
        · exact .inr (.inl ⟨q1, decide_eq_false q2, beq_eq_false_iff_ne.2 (by omega)⟩)
      · exact .inr (.inr q1.1)
    rcases hcs with ⟨rfl, e1, e2, e3'⟩ | ⟨rfl, e1, e2⟩ | rfl
    all_goals
      go_wp2_with (fail)
      go_meet
      case rel => exact ⟨rfl, S5.out, P1.out, P2.out, HB.out⟩
  case rest =>
    clear S5 P1 P2 HB HC1 HC2
    obtain ⟨rfl, S5, P1, P2, HB⟩ := hcut
    go_upto_if 155 with (fail)
    go_cut [] (fun wc => Hid (Sev wc W.heap.size a g b n1 d1 n2 d2) ∧ Hid (Pla wc g18 p q) ∧ Hid (Below W.heap.size W wc))
    case first =>
      obtain ⟨k0, k1, -, -⟩ := pla_cell P1.out
      obtain ⟨k2, k3, k4, k5⟩ := pla_cell P2.out
      rcases HCS.out with ⟨rfl, -, -, rfl, rfl⟩ | ⟨rfl, rfl, rfl⟩
      · go_wp2_with (fail)
        go_meet
        case rel => exact ⟨S5.out, P2.out, HB.out⟩
      · go_wp2_with (fail)
        go_meet
        case rel => exact ⟨(show Sev _ W.heap.size a g b n1 d1 n2 d2 from by unfold Sev; rw [block_other N5.out, block_other N5.out]; have h := S5.out; unfold Sev at h; exact h), (show Pla _ g18 p q from heap_setCell_same _ g18 1 _ _ _ (heap_setCell_same _ g18 0 _ _ _ P2.out)), (HB.out.setCell GE.out _).setCell GE.out _⟩
    case rest =>
      clear S5 P1 P2 HB HCS
      obtain ⟨S5, P2, HB⟩ := hcut
      rename World => wz
      obtain ⟨c0, c1, c2, c3, c4, c5, c6⟩ := sev_cell S5.out
      obtain ⟨N19, N18, GE19⟩ : Hid (W.heap.size ≠ wz.heap.size) ∧ Hid (g18 ≠ wz.heap.size) ∧ Hid (W.heap.size ≤ wz.heap.size) := ⟨Nat.ne_of_lt (cell_size (sev_cell S5.out).1), Nat.ne_of_lt (cell_size (pla_cell P2.out).1), HB.out.size⟩
      go_upto_region 18 with (fail)
      clear c0 c1 c2 c3 c4 c5 c6
      obtain ⟨wy, hw⟩ : ∃ X, X = wz.alloc (.cells #[.int .i64 a, .int .i64 g, .int .i64 b, .int .i64 n1, .int .i64 d1, .int .i64 n2, .int .i64 d2] 46) := ⟨_, rfl⟩
      rw [← hw]
      have hb : Below wz.heap.size wz wy := by rw [hw]; exact (Below.refl _ _).alloc (Nat.le_refl _) _
      have S19 := Lib.hid (show Sev wy wz.heap.size a g b n1 d1 n2 d2 from by rw [hw]; exact (MapKept.heap_alloc wz _).1)
      clear hw
      have HB := Lib.hid (HB.out.trans (hb.mono HB.out.size))
      have S5 := Lib.hid (sev_step S5.out hb)
      have P2 := Lib.hid (pla_step P2.out hb)
      clear hb
      obtain ⟨g19, hg19⟩ : ∃ k, k = wz.heap.size := ⟨_, rfl⟩
      rw [← hg19]
      rw [← hg19] at S19 N19 N18 GE19
      clear hg19
      obtain ⟨hm1, hm2, h3, h4⟩ := HQ4.out
      have HQ5 := Lib.hid (And.intro hm1 (And.intro hm2 h4))
      clear hm1 hm2 h4
      have z1 := HGB.out.1
      have z2 : IntKind.i64.wrap ((g : Int) - (e3 : Int)) = (g' : Int) := by rw [z1]; exact IntWalk.i64_in _ (by have := HGB.out.1; omega)
      have z3 : ((g : Int) + 1 == 0) = false := beq_eq_false_iff_ne.2 (by omega)
      have z4 : (0 : Int) < (g : Int) + 1 := by omega
      obtain ⟨c0, c1, c2, c3, c4, c5, c6⟩ := sev_cell S5.out
      obtain ⟨d0', d1', d2', d3', d4', d5', d6'⟩ := sev_cell S19.out
      have fz1 := sev_free S19.out 1; have fz2 := sev_free S19.out 2; have fz3 := sev_free S19.out 3; have fz5 := sev_free S19.out 5
      go_region
      clear c0 c1 c2 c3 c4 c5 c6
      clear d0' d1' d2' d3' d4' d5' d6' fz1 fz2 fz3 fz5
      clear h3 z1 z2 z3 z4
      obtain ⟨wx, hw⟩ : ∃ X, X = (wy.setCell ⟨g19, 1, none⟩ (.int .i64 (g' : Int))).drew := ⟨_, rfl⟩
      rw [← hw]
      have S5 := Lib.hid (show Sev wx W.heap.size a g b n1 d1 n2 d2 from by rw [hw]; unfold Sev; show (World.setCell _ _ _).heap[_]? = _; rw [block_other N19.out]; exact S5.out)
      have P2 := Lib.hid (show Pla wx g18 p q from by rw [hw]; unfold Pla; show (World.setCell _ _ _).heap[_]? = _; rw [block_other N18.out]; exact P2.out)
      have S19 := Lib.hid (show Sev wx g19 a g' b n1 d1 n2 d2 from by rw [hw]; exact heap_setCell_same _ g19 1 _ _ _ S19.out)
      have HB := Lib.hid (show Below W.heap.size W wx from by rw [hw]; exact (HB.out.setCell GE19.out _).drew)
      clear hw
      obtain ⟨hm1, hm2, h4⟩ := HQ5.out
      have HQ6 := Lib.hid (And.intro hm1 hm2)
      clear hm1 hm2
      have z1 : (b : Int) + (y4 : Int) % ((a : Int) - (b : Int) + 1) = (b' : Int) := by rw [h4]; exact HGB.out.2
      have z2 : 0 ≤ (y4 : Int) % ((a : Int) - (b : Int) + 1) := by rw [h4]; omega
      have z6 : (y4 : Int) % ((a : Int) - (b : Int) + 1) ≤ 50 := by rw [h4]; omega
      have z3 : ((a : Int) - (b : Int) + 1 == 0) = false := beq_eq_false_iff_ne.2 (by omega)
      have z4 : (0 : Int) < (a : Int) - (b : Int) + 1 := by omega
      have z5 : (0 : Int) ≤ (a : Int) - (b : Int) := by omega
      clear h4
      go_upto_region 19 with (fail)
      obtain ⟨c0, c1, c2, c3, c4, c5, c6⟩ := sev_cell S5.out
      obtain ⟨d0', d1', d2', d3', d4', d5', d6'⟩ := sev_cell S19.out
      have fz1 := sev_free S19.out 1; have fz2 := sev_free S19.out 2; have fz3 := sev_free S19.out 3; have fz5 := sev_free S19.out 5
      go_region
      clear c0 c1 c2 c3 c4 c5 c6
      clear d0' d1' d2' d3' d4' d5' d6' fz1 fz2 fz3 fz5
      clear z1 z2 z3 z4 z5 z6
      obtain ⟨wv, hw⟩ : ∃ X, X = (wx.setCell ⟨g19, 2, none⟩ (.int .i64 (b' : Int))).drew := ⟨_, rfl⟩
      rw [← hw]
      have S5 := Lib.hid (show Sev wv W.heap.size a g b n1 d1 n2 d2 from by rw [hw]; unfold Sev; show (World.setCell _ _ _).heap[_]? = _; rw [block_other N19.out]; exact S5.out)
      have P2 := Lib.hid (show Pla wv g18 p q from by rw [hw]; unfold Pla; show (World.setCell _ _ _).heap[_]? = _; rw [block_other N18.out]; exact P2.out)
      have S19 := Lib.hid (show Sev wv g19 a g' b' n1 d1 n2 d2 from by rw [hw]; exact heap_setCell_same _ g19 2 _ _ _ S19.out)
      have HB := Lib.hid (show Below W.heap.size W wv from by rw [hw]; exact (HB.out.setCell GE19.out _).drew)
      clear hw
      obtain ⟨hm1, hm2⟩ := HQ6.out
      have HM1 := Lib.hid hm1
      have HM2 := Lib.hid hm2
      clear hm1 hm2 S5 N5 N1 N19
      obtain ⟨d0', d1', d2', d3', d4', d5', d6'⟩ := sev_cell S19.out
      have fz1 := sev_free S19.out 1; have fz2 := sev_free S19.out 2; have fz3 := sev_free S19.out 3; have fz5 := sev_free S19.out 5
      go_upto_if 189 with (fail)
      clear d0' d1' d2' d3' d4' d5' d6' fz1 fz2 fz3 fz5
      go_cut [] (fun wc => Hid (Sev wc g19 a g' b' m1 d1 n2 d2) ∧ Hid (Pla wc g18 p q) ∧ Hid (Below W.heap.size W wc))
      case first =>
        have hm := HM1.out
        obtain ⟨d0', d1', d2', d3', d4', d5', d6'⟩ := sev_cell S19.out
        have fz1 := sev_free S19.out 1; have fz2 := sev_free S19.out 2; have fz3 := sev_free S19.out 3; have fz5 := sev_free S19.out 5
        by_cases hqq : 2 * (n1 + 1) < d1
        · rw [if_pos hqq] at hm
          have zq : (n1 : Int) + 1 = (m1 : Int) := by omega
          have tq : decide (2 * (m1 : Int) < (d1 : Int)) = true := decide_eq_true (by omega)
          clear hm
          go_wp2_with (fail)
          go_meet
          case rel => exact ⟨(show Sev _ g19 a g' b' m1 d1 n2 d2 from heap_setCell_same _ g19 3 _ _ _ S19.out), (show Pla _ g18 p q from by unfold Pla; rw [block_other N18.out]; exact P2.out), HB.out.setCell GE19.out _⟩
        · rw [if_neg hqq] at hm
          have tq : decide (2 * ((n1 : Int) + 1) < (d1 : Int)) = false := decide_eq_false (by omega)
          have hme := Lib.hid hm
          clear hm
          go_wp2_with (fail)
          go_meet
          case rel => exact ⟨(show Sev _ g19 a g' b' m1 d1 n2 d2 from by rw [hme.out]; exact S19.out), P2.out, HB.out⟩
      case rest =>
        clear S19 P2 HB
        obtain ⟨S19, P2, HB⟩ := hcut
        obtain ⟨d0', d1', d2', d3', d4', d5', d6'⟩ := sev_cell S19.out
        have fz1 := sev_free S19.out 1; have fz2 := sev_free S19.out 2; have fz3 := sev_free S19.out 3; have fz5 := sev_free S19.out 5
        go_upto_if 204 with (fail)
        clear d0' d1' d2' d3' d4' d5' d6' fz1 fz2 fz3 fz5
        go_cut [] (fun wc => Hid (Sev wc g19 a g' b' m1 d1 m2 d2) ∧ Hid (Pla wc g18 p q) ∧ Hid (Below W.heap.size W wc))
        case first =>
          have hm := HM2.out
          obtain ⟨d0', d1', d2', d3', d4', d5', d6'⟩ := sev_cell S19.out
          have fz1 := sev_free S19.out 1; have fz2 := sev_free S19.out 2; have fz3 := sev_free S19.out 3; have fz5 := sev_free S19.out 5
          by_cases hqq : 2 * (n2 + 1) < d2
          · rw [if_pos hqq] at hm
            have zq : (n2 : Int) + 1 = (m2 : Int) := by omega
            have tq : decide (2 * (m2 : Int) < (d2 : Int)) = true := decide_eq_true (by omega)
            clear hm
            go_wp2_with (fail)
            go_meet
            case rel => exact ⟨(show Sev _ g19 a g' b' m1 d1 m2 d2 from heap_setCell_same _ g19 5 _ _ _ S19.out), (show Pla _ g18 p q from by unfold Pla; rw [block_other N18.out]; exact P2.out), HB.out.setCell GE19.out _⟩
          · rw [if_neg hqq] at hm
            have tq : decide (2 * ((n2 : Int) + 1) < (d2 : Int)) = false := decide_eq_false (by omega)
            have hme := Lib.hid hm
            clear hm
            go_wp2_with (fail)
            go_meet
            case rel => exact ⟨(show Sev _ g19 a g' b' m1 d1 m2 d2 from by rw [hme.out]; exact S19.out), P2.out, HB.out⟩
        case rest =>
          clear S19 P2 HB
          obtain ⟨S19, P2, HB⟩ := hcut
          obtain ⟨d0', d1', d2', d3', d4', d5', d6'⟩ := sev_cell S19.out
          have fz1 := sev_free S19.out 1; have fz2 := sev_free S19.out 2; have fz3 := sev_free S19.out 3; have fz5 := sev_free S19.out 5
          obtain ⟨k2, k3, -, -⟩ := pla_cell P2.out
          go_wp2_with fail
          refine (HF.out _).mono ?_
          rintro e wl ⟨rfl, hb⟩
          have HB := Lib.hid (HB.out.trans (hb.mono HB.out.size))
          clear hb
          go_wp2_with fail
          refine (works_any _).mono ?_
          rintro e wm ⟨rfl, hb⟩
          have HB := Lib.hid (HB.out.trans (hb.mono HB.out.size))
          clear hb
          clear d0' d1' d2' d3' d4' d5' d6' fz1 fz2 fz3 fz5
          go_wp2
          go_ret
          exact ⟨rfl, HB.out⟩
end Go.Proofs.Ytmgdidhhgdpobaa.Hand

/- Sides and CheckPlan come to plain numbers. -/
import Derived.Test.YtmgdidhhgdpobaaHTest
namespace Go.Proofs.Ytmgdidhhgdpobaa.Hand
open Go.RowKit Go.Maps Go.Proofs.YtmgdidhhgdpobaaW.PrintWords Go.Proofs.YtmgdidhhgdpobaaW.PrintLast Go.Proofs.YtmgdidhhgdpobaaW.PrintMore Go.Proofs.Ytmgdidhhgdpobaa.PrA

theorem open_bad (a0 a1 a2 a3 a4 a5 a6 p0 p1 : Int) (w : World) (h : openN a0 a1 a2 a3 a4 a5 a6 p0 p1 ≠ 0) :
    Calls Try.prog 72 #[.agg #[.int .i64 a0, .int .i64 a1, .int .i64 a2, .int .i64 a3, .int .i64 a4, .int .i64 a5, .int .i64 a6], .agg #[.int .i64 p0, .int .i64 p1]] w
      fun e w' => e = .returned (.tuple #[.pointer none, .int .i64 (openN a0 a1 a2 a3 a4 a5 a6 p0 p1)]) ∧ Below w.heap.size w w' := by
  unfold openN at h ⊢
  by_cases ht : testN a0 a1 a2 a3 a4 a5 a6 = 0
  · rw [if_pos ht] at h ⊢
    cases hp : planOk a0 p0 p1
    · exact open_plan a0 a1 a2 a3 a4 a5 a6 p0 p1 w ht hp
    · rw [hp] at h; exact absurd rfl h
  · rw [if_neg ht] at h ⊢
    exact open_test a0 a1 a2 a3 a4 a5 a6 p0 p1 w ht
theorem open_zero {a0 a1 a2 a3 a4 a5 a6 p0 p1 : Int} (h : openN a0 a1 a2 a3 a4 a5 a6 p0 p1 = 0) : testN a0 a1 a2 a3 a4 a5 a6 = 0 ∧ planOk a0 p0 p1 = true := by
  unfold openN at h
  split at h
  · rename_i g
    refine ⟨g, ?_⟩
    split at h
    · rename_i g2; exact g2
    · exact absurd h (by decide)
  · rename_i g; exact absurd h g
theorem open_ok (a0 a1 a2 a3 a4 a5 a6 p0 p1 : Int) (w : World) (h : openN a0 a1 a2 a3 a4 a5 a6 p0 p1 = 0) :
    Calls Try.prog 72 #[.agg #[.int .i64 a0, .int .i64 a1, .int .i64 a2, .int .i64 a3, .int .i64 a4, .int .i64 a5, .int .i64 a6], .agg #[.int .i64 p0, .int .i64 p1]] w
      fun e w' => ∃ b, e = .returned (.tuple #[.pointer (some ⟨b, 0, none⟩), .int .i64 0]) ∧ BenchAt w' b a0 a1 a2 a3 a4 a5 a6 ∧ Below w.heap.size w w' :=
  open_good a0 a1 a2 a3 a4 a5 a6 p0 p1 w (open_zero h).1 (open_zero h).2

/-- what Sides comes to -/
def check_Sides.f (a0_0 a0_1 a0_2 a0_3 a0_4 a0_5 a0_6 a1_0 a1_1 : Int) : Option (Int × Int × Int) :=
  some (if openN a0_0 a0_1 a0_2 a0_3 a0_4 a0_5 a0_6 a1_0 a1_1 = 0 then (goodN a0_0 a0_1 a1_0 a1_1, uptoN a0_0 a0_2 a1_0 a1_1, 0) else (0, 0, openN a0_0 a0_1 a0_2 a0_3 a0_4 a0_5 a0_6 a1_0 a1_1))
/-- what CheckPlan comes to -/
def check_CheckPlan.f (a0_0 a0_1 a0_2 a0_3 a0_4 a0_5 a0_6 a1_0 a1_1 : Int) : Option Int :=
  some (if openN a0_0 a0_1 a0_2 a0_3 a0_4 a0_5 a0_6 a1_0 a1_1 = 0 then (if rightB a0_0 a0_1 a0_2 a0_3 a0_4 a0_5 a0_6 a1_0 a1_1 then 0 else 13) else openN a0_0 a0_1 a0_2 a0_3 a0_4 a0_5 a0_6 a1_0 a1_1)

set_option maxHeartbeats 4000000 in
theorem check_Sides.calls (a0_0 a0_1 a0_2 a0_3 a0_4 a0_5 a0_6 a1_0 a1_1 r1 r2 r3 : Int) (w : World) (h : check_Sides.f a0_0 a0_1 a0_2 a0_3 a0_4 a0_5 a0_6 a1_0 a1_1 = some (r1, r2, r3)) :
    Calls Try.prog 35 #[.agg #[.int .i64 a0_0, .int .i64 a0_1, .int .i64 a0_2, .int .i64 a0_3, .int .i64 a0_4, .int .i64 a0_5, .int .i64 a0_6], .agg #[.int .i64 a1_0, .int .i64 a1_1]] w
      fun e w' => e = .returned (.tuple #[.int .i64 r1, .int .i64 r2, .int .i64 r3]) ∧ Below w.heap.size w w' := by
  replace h := Option.some.inj h
  have hu46 := Try.underlying46
  have hu48 := Try.underlying48
  have hu27 := Try.underlying27
  obtain ⟨W, hW⟩ : ∃ W, W = (w.alloc (.cells #[.int .i64 a0_0, .int .i64 a0_1, .int .i64 a0_2, .int .i64 a0_3, .int .i64 a0_4, .int .i64 a0_5, .int .i64 a0_6] 46)).alloc (.cells #[.int .i64 a1_0, .int .i64 a1_1] 48) := ⟨_, rfl⟩
  have hbl : Below w.heap.size w W := by rw [hW]; exact ((Below.refl w.heap.size w).alloc (Nat.le_refl _) _).alloc (by simp) _
  have HBL := Lib.hid hbl
  have d3 : W.cell? ⟨w.heap.size + 1, 0, none⟩ = some (.int .i64 a1_0) := by rw [hW]; simp
  have d4 : W.cell? ⟨w.heap.size + 1, 1, none⟩ = some (.int .i64 a1_1) := by rw [hW]; simp
  have HD := Lib.hid (And.intro d3 d4)
  clear hbl d3 d4
  by_cases ho : openN a0_0 a0_1 a0_2 a0_3 a0_4 a0_5 a0_6 a1_0 a1_1 = 0
  · rw [if_pos ho] at h
    simp only [Prod.mk.injEq] at h
    obtain ⟨rfl, rfl, rfl⟩ := h
    have HC := Lib.hid (open_ok a0_0 a0_1 a0_2 a0_3 a0_4 a0_5 a0_6 a1_0 a1_1 W ho)
    have HO := Lib.hid (And.intro (test_in (open_zero ho).1) (plan_in (open_zero ho).2))
    clear ho
    go_enter Try.func35, Try.ntmps35
    go_wp2_with fail
    rw [← hW]
    clear hW
    refine HC.out.mono ?_
    rintro e w1 ⟨b, rfl, hB, hw1⟩
    have e3 : w1.cell? ⟨w.heap.size + 1, 0, none⟩ = some (.int .i64 a1_0) := by rw [hw1.cell (cell_size HD.out.1)]; exact HD.out.1
    have e4 : w1.cell? ⟨w.heap.size + 1, 1, none⟩ = some (.int .i64 a1_1) := by rw [hw1.cell (cell_size HD.out.2)]; exact HD.out.2
    have HC2 := Lib.hid (sides_any b a0_0 a0_1 a0_2 a0_3 a0_4 a0_5 a0_6 a1_0 a1_1 w1 hB (by have := HO.out; omega) (by have := HO.out; omega) (by have := HO.out; omega) (by have := HO.out; omega) (by have := HO.out; omega) (by have := HO.out; omega) (by have := HO.out; omega) (by have := HO.out; omega) (by have := HO.out; omega))
    have HW1 := Lib.hid (HBL.out.trans (hw1.mono HBL.out.size))
    clear hw1 hB HBL HC HD
    go_wp2_with fail
    refine HC2.out.mono ?_
    rintro e w2 ⟨rfl, hw2⟩
    have HW2 := Lib.hid (HW1.out.trans (hw2.mono HW1.out.size))
    clear hw2
    go_wp2
    refine bodyPost_ret (v := .tuple #[.int .i64 (goodN a0_0 a0_1 a1_0 a1_1), .int .i64 (uptoN a0_0 a0_2 a1_0 a1_1), .int .i64 0]) (by simp [results, Try.results35, go_sem]) rfl ⟨rfl, HW2.out⟩
  · rw [if_neg ho] at h
    simp only [Prod.mk.injEq] at h
    obtain ⟨rfl, rfl, rfl⟩ := h
    have HC := Lib.hid (open_bad a0_0 a0_1 a0_2 a0_3 a0_4 a0_5 a0_6 a1_0 a1_1 W ho)
    obtain ⟨o, hoo⟩ : ∃ o, o = openN a0_0 a0_1 a0_2 a0_3 a0_4 a0_5 a0_6 a1_0 a1_1 := ⟨_, rfl⟩
    rw [← hoo] at ho HC ⊢
    have hb1 : (o != 0) = true := bne_iff_ne.2 ho
    clear hoo ho HD
    go_enter Try.func35, Try.ntmps35
    go_wp2_with fail
    rw [← hW]
    clear hW
    refine HC.out.mono ?_
    rintro e w1 ⟨rfl, hw1⟩
    have HW1 := Lib.hid (HBL.out.trans (hw1.mono HBL.out.size))
    clear hw1
    go_wp2
    refine bodyPost_ret (v := .tuple #[.int .i64 0, .int .i64 0, .int .i64 o]) (by simp [results, Try.results35, go_sem]) rfl ⟨rfl, HW1.out⟩

set_option maxHeartbeats 4000000 in
theorem check_CheckPlan.calls (a0_0 a0_1 a0_2 a0_3 a0_4 a0_5 a0_6 a1_0 a1_1 r : Int) (w : World) (h : check_CheckPlan.f a0_0 a0_1 a0_2 a0_3 a0_4 a0_5 a0_6 a1_0 a1_1 = some r) :
    Calls Try.prog 39 #[.agg #[.int .i64 a0_0, .int .i64 a0_1, .int .i64 a0_2, .int .i64 a0_3, .int .i64 a0_4, .int .i64 a0_5, .int .i64 a0_6], .agg #[.int .i64 a1_0, .int .i64 a1_1]] w
      fun e w' => e = .returned (.int .i64 r) ∧ Below w.heap.size w w' := by
  replace h := Option.some.inj h
  have hu46 := Try.underlying46
  have hu48 := Try.underlying48
  have hu27 := Try.underlying27
  obtain ⟨W, hW⟩ : ∃ W, W = (w.alloc (.cells #[.int .i64 a0_0, .int .i64 a0_1, .int .i64 a0_2, .int .i64 a0_3, .int .i64 a0_4, .int .i64 a0_5, .int .i64 a0_6] 46)).alloc (.cells #[.int .i64 a1_0, .int .i64 a1_1] 48) := ⟨_, rfl⟩
  have hbl : Below w.heap.size w W := by rw [hW]; exact ((Below.refl w.heap.size w).alloc (Nat.le_refl _) _).alloc (by simp) _
  have HBL := Lib.hid hbl
  have d3 : W.cell? ⟨w.heap.size + 1, 0, none⟩ = some (.int .i64 a1_0) := by rw [hW]; simp
  have d4 : W.cell? ⟨w.heap.size + 1, 1, none⟩ = some (.int .i64 a1_1) := by rw [hW]; simp
  have HD := Lib.hid (And.intro d3 d4)
  clear hbl d3 d4
  by_cases ho : openN a0_0 a0_1 a0_2 a0_3 a0_4 a0_5 a0_6 a1_0 a1_1 = 0
  · rw [if_pos ho] at h
    have HC := Lib.hid (open_ok a0_0 a0_1 a0_2 a0_3 a0_4 a0_5 a0_6 a1_0 a1_1 W ho)
    have HO := Lib.hid (And.intro (test_in (open_zero ho).1) (plan_in (open_zero ho).2))
    have H := Lib.hid h
    clear ho h
    go_enter Try.func39, Try.ntmps39
    go_wp2_with fail
    rw [← hW]
    clear hW
    refine HC.out.mono ?_
    rintro e w1 ⟨b, rfl, hB, hw1⟩
    have e3 : w1.cell? ⟨w.heap.size + 1, 0, none⟩ = some (.int .i64 a1_0) := by rw [hw1.cell (cell_size HD.out.1)]; exact HD.out.1
    have e4 : w1.cell? ⟨w.heap.size + 1, 1, none⟩ = some (.int .i64 a1_1) := by rw [hw1.cell (cell_size HD.out.2)]; exact HD.out.2
    have HC2 := Lib.hid (right_any b a0_0 a0_1 a0_2 a0_3 a0_4 a0_5 a0_6 a1_0 a1_1 w1 hB (by have := HO.out; omega) (by have := HO.out; omega) (by have := HO.out; omega) (by have := HO.out; omega) (by have := HO.out; omega) (by have := HO.out; omega) (by have := HO.out; omega) (by have := HO.out; omega) (by have := HO.out; omega))
    have HW1 := Lib.hid (HBL.out.trans (hw1.mono HBL.out.size))
    clear hw1 hB HBL HC HD
    cases hq : rightB a0_0 a0_1 a0_2 a0_3 a0_4 a0_5 a0_6 a1_0 a1_1
    · have h := H.out
      rw [hq] at h HC2
      simp only [Bool.false_eq_true, if_false] at h
      subst h
      clear hq H
      go_wp2_with fail
      refine HC2.out.mono ?_
      rintro e w2 ⟨rfl, hw2⟩
      have HW2 := Lib.hid (HW1.out.trans (hw2.mono HW1.out.size))
      clear hw2
      go_wp2
      go_ret
      exact ⟨rfl, HW2.out⟩
    · have h := H.out
      rw [hq] at h HC2
      simp only [if_true] at h
      subst h
      clear hq H
      go_wp2_with fail
      refine HC2.out.mono ?_
      rintro e w2 ⟨rfl, hw2⟩
      have HW2 := Lib.hid (HW1.out.trans (hw2.mono HW1.out.size))
      clear hw2
      go_wp2
      go_ret
      exact ⟨rfl, HW2.out⟩
  · rw [if_neg ho] at h
    subst h
    have HC := Lib.hid (open_bad a0_0 a0_1 a0_2 a0_3 a0_4 a0_5 a0_6 a1_0 a1_1 W ho)
    obtain ⟨o, hoo⟩ : ∃ o, o = openN a0_0 a0_1 a0_2 a0_3 a0_4 a0_5 a0_6 a1_0 a1_1 := ⟨_, rfl⟩
    rw [← hoo] at ho HC ⊢
    have hb1 : (o != 0) = true := bne_iff_ne.2 ho
    clear hoo ho HD
    go_enter Try.func39, Try.ntmps39
    go_wp2_with fail
    rw [← hW]
    clear hW
    refine HC.out.mono ?_
    rintro e w1 ⟨rfl, hw1⟩
    have HW1 := Lib.hid (HBL.out.trans (hw1.mono HBL.out.size))
    clear hw1
    go_wp2
    go_ret
    exact ⟨rfl, HW1.out⟩
end Go.Proofs.Ytmgdidhhgdpobaa.Hand

/- Between, all cases. -/
import Derived.Test.YtmgdidhhgdpobaaHBetween
namespace Go.Proofs.Ytmgdidhhgdpobaa.Hand
open Go.RowKit Go.Maps Go.Proofs.YtmgdidhhgdpobaaW.PrintWords Go.Proofs.YtmgdidhhgdpobaaW.PrintLast Go.Proofs.YtmgdidhhgdpobaaW.PrintMore Go.Proofs.Ytmgdidhhgdpobaa.PrA

set_option maxRecDepth 100000 in
set_option maxHeartbeats 8000000 in
theorem check_Between.calls (a0 a1 a2 a3_0 a3_1 r1_0 r1_1 r2 : Int) (w : World) (h : check_Between.f a0 a1 a2 a3_0 a3_1 = some (r1_0, r1_1, r2)) :
    Calls Try.prog 31 #[.int .i64 a0, .int .i64 a1, .int .i64 a2, .agg #[.int .i64 a3_0, .int .i64 a3_1]] w
      fun e w' => e = .returned (.tuple #[.agg #[.int .i64 r1_0, .int .i64 r1_1], .int .i64 r2]) ∧ Below w.heap.size w w' := by
  replace h := Option.some.inj h
  have hu27 := Try.underlying27
  have hc := fun W => isCase_any a0 0 a1 a2 W
  have hk := fun W => isRisk_int a3_0 a3_1 W
  cases hb : caseB a0 0 a1 a2
  · rw [hb] at h hc
    simp only [Bool.false_eq_true, if_false, Prod.mk.injEq] at h
    obtain ⟨rfl, rfl, rfl⟩ := h
    have HC := Lib.hid hc
    clear hc hk hb
    go_enter Try.func31, Try.ntmps31
    go_wp2_with fail
    refine (HC.out _).mono ?_
    rintro e w1 ⟨rfl, hb1⟩
    have c1 : w1.cell? ⟨w.heap.size + 1 + 1 + 1 + 1, 0, none⟩ = some (.int .i64 0) := by rw [hb1.cell (by simp)]; simp [go_sem]
    have c2 : w1.cell? ⟨w.heap.size + 1 + 1 + 1 + 1, 1, none⟩ = some (.int .i64 0) := by rw [hb1.cell (by simp)]; simp [go_sem]
    have f1 : w1.frozen? ⟨w.heap.size + 1 + 1 + 1 + 1, 0, none⟩ = false := by rw [hb1.frozen (by simp)]; simp [go_sem]
    have f2 : w1.frozen? ⟨w.heap.size + 1 + 1 + 1 + 1, 1, none⟩ = false := by rw [hb1.frozen (by simp)]; simp [go_sem]
    have HB1 := Lib.hid hb1
    clear hb1
    go_wp2
    refine bodyPost_ret (v := .tuple #[.agg #[.int .i64 0, .int .i64 0], .int .i64 3]) (by simp [results, Try.results31, go_sem, c1, c2]) rfl ⟨rfl, ?_⟩
    exact ((((((((Below.refl w.heap.size w).alloc (Nat.le_refl _) _).alloc (by simp) _).alloc (by simp; omega) _).alloc (by simp; omega) _).alloc (by simp; omega) _).trans (HB1.out.mono (by simp; omega))).setCell (by simp; omega) _).setCell (by simp; omega) _
  · rw [hb] at h hc
    simp only [if_true] at h
    cases hr : riskOk a3_0 a3_1
    · rw [hr] at h hk
      simp only [Bool.false_eq_true, if_false, Prod.mk.injEq] at h
      obtain ⟨rfl, rfl, rfl⟩ := h
      have HC := Lib.hid hc
      have HK := Lib.hid hk
      clear hc hk hb hr
      obtain ⟨W, hW⟩ : ∃ W, W = ((((w.alloc (.cells #[.int .i64 a0] 3)).alloc (.cells #[.int .i64 a1] 3)).alloc (.cells #[.int .i64 a2] 3)).alloc (.cells #[.int .i64 a3_0, .int .i64 a3_1] 27)).alloc (.cells #[.int .i64 0, .int .i64 0] 39) := ⟨_, rfl⟩
      have d3 : W.cell? ⟨w.heap.size + 3, 0, none⟩ = some (.int .i64 a3_0) := by rw [hW]; simp [go_sem]
      have d4 : W.cell? ⟨w.heap.size + 3, 1, none⟩ = some (.int .i64 a3_1) := by rw [hW]; simp [go_sem]
      have d5 : W.cell? ⟨w.heap.size + 4, 0, none⟩ = some (.int .i64 0) := by rw [hW]; simp [go_sem]
      have d6 : W.cell? ⟨w.heap.size + 4, 1, none⟩ = some (.int .i64 0) := by rw [hW]; simp [go_sem]
      have d7 : W.frozen? ⟨w.heap.size + 4, 0, none⟩ = false := by rw [hW]; simp [go_sem]
      have d8 : W.frozen? ⟨w.heap.size + 4, 1, none⟩ = false := by rw [hW]; simp [go_sem]
      have hbl : Below w.heap.size w W := by rw [hW]; exact (((((Below.refl w.heap.size w).alloc (Nat.le_refl _) _).alloc (by simp) _).alloc (by simp; omega) _).alloc (by simp; omega) _).alloc (by simp; omega) _
      have HD := Lib.hid (And.intro d3 (And.intro d4 (And.intro d5 (And.intro d6 (And.intro d7 (And.intro d8 hbl))))))
      clear d3 d4 d5 d6 d7 d8 hbl
      go_enter Try.func31, Try.ntmps31
      go_wp2_with fail
      rw [← hW]
      clear hW
      refine (HC.out _).mono ?_
      rintro e w1 ⟨rfl, hb1⟩
      obtain ⟨d3, d4, d5, d6, d7, d8, hbl⟩ := HD.out
      have e3 : w1.cell? ⟨w.heap.size + 3, 0, none⟩ = some (.int .i64 a3_0) := by rw [hb1.cell (cell_size d3)]; exact d3
      have e4 : w1.cell? ⟨w.heap.size + 3, 1, none⟩ = some (.int .i64 a3_1) := by rw [hb1.cell (cell_size d4)]; exact d4
      have HB1 := Lib.hid hb1
      clear hb1 d3 d4 d5 d6 d7 d8 hbl
      go_wp2_with fail
      refine (HK.out _).mono ?_
      rintro e w2 ⟨rfl, hb2⟩
      obtain ⟨d3, d4, d5, d6, d7, d8, hbl⟩ := HD.out
      have hb12 := HB1.out.trans (hb2.mono HB1.out.size)
      have c1 : w2.cell? ⟨w.heap.size + 4, 0, none⟩ = some (.int .i64 0) := by rw [hb12.cell (cell_size d5)]; exact d5
      have c2 : w2.cell? ⟨w.heap.size + 4, 1, none⟩ = some (.int .i64 0) := by rw [hb12.cell (cell_size d6)]; exact d6
      have f1 : w2.frozen? ⟨w.heap.size + 4, 0, none⟩ = false := by rw [hb12.frozen (cell_size d5)]; exact d7
      have f2 : w2.frozen? ⟨w.heap.size + 4, 1, none⟩ = false := by rw [hb12.frozen (cell_size d6)]; exact d8
      have HB2 := Lib.hid (hbl.trans (hb12.mono hbl.size))
      clear d3 d4 d5 d6 d7 d8 hbl hb12 hb2 e3 e4
      go_wp2
      refine bodyPost_ret (v := .tuple #[.agg #[.int .i64 0, .int .i64 0], .int .i64 2]) (by simp [results, Try.results31, go_sem, c1, c2]) rfl ⟨rfl, ?_⟩
      exact (HB2.out.setCell (by simp; omega) _).setCell (by simp; omega) _
    · rw [hr] at h
      simp only [if_true, Prod.mk.injEq] at h
      obtain ⟨rfl, rfl, rfl⟩ := h
      obtain ⟨p1, p2, p3, p4, p5, p6, p7, p8⟩ := case_in hb
      obtain ⟨a, rfl⟩ := Int.eq_ofNat_of_zero_le (show 0 ≤ a0 by omega)
      obtain ⟨s, rfl⟩ := Int.eq_ofNat_of_zero_le p5
      obtain ⟨f, rfl⟩ := Int.eq_ofNat_of_zero_le p7
      exact between_good a s f a3_0 a3_1 w (by omega) (by omega) (by omega) (by omega) hr
end Go.Proofs.Ytmgdidhhgdpobaa.Hand

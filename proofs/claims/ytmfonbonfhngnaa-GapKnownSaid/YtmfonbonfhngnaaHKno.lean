/- The chapter's examples hold: GapKnown returns true. (Printed by tools/known03.py.) -/
import Derived.Test.YtmfonbonfhngnaaHWorks
namespace Go.Proofs.Ytmfonbonfhngnaa.Hand
set_option linter.unusedVariables false
set_option linter.unusedSimpArgs false
open Go.RowKit Go.Maps Go.Proofs.YtmfonbonfhngnaaW.PrintWords Go.Proofs.YtmfonbonfhngnaaW.PrintLast Go.Proofs.YtmfonbonfhngnaaW.PrintMore Go.Proofs.Ytmfonbonfhngnaa.PrA Go.Proofs.Ytmfonbonfhngnaa.PrR Go.Proofs.Ytmfonbonfhngnaa.PrL

set_option maxRecDepth 1000000
theorem kn_k1 : gap_CheckTurning.f [5, 2, 8, 1, 9, 3, 7, 4, 6] 2 [0, 1, 0, -1, 0, 1, 1, -1, -1] = some (6, 0) := by decide +kernel
theorem kn_k2 : gap_Most.f 100 [5, 2, 8, 1, 9, 3, 7, 4, 6] 0 = some (0, 0) := by decide +kernel
theorem kn_k3 : gap_Most.f 100 [5, 2, 8, 1, 9, 3, 7, 4, 6] 1 = some (4, 0) := by decide +kernel
theorem kn_k4 : gap_Most.f 100 [5, 2, 8, 1, 9, 3, 7, 4, 6] 3 = some (9, 0) := by decide +kernel
theorem kn_k5 : gap_Fewest.f [2, 2, 1, 2] = some (2, 0) := by decide +kernel
theorem kn_k6 : gap_Place.f [2, 2, 1, 2] = some ([0, 0, 1, 0], 0) := by decide +kernel
theorem kn_k7 : gap_Run.f [2, 2, 1, 2] = some ([0, 2], 0) := by decide +kernel
theorem kn_k8 : gap_CheckRuns.f 100 [5, 2, 8, 1, 9, 3, 7, 4, 6] 1 [[0, 1, 3], [2, 5], [4, 6, 7], [8]] = some (4, 0) := by decide +kernel
theorem kn_k9 : gap_Shape.f 100 [] = some ([], 0) := by decide +kernel
theorem kn_k10 : gap_CheckRun.f 100 [5, 2, 8, 1, 9, 3, 7, 4, 6] [4, 6, 8] = some 0 := by decide +kernel
theorem kn_k11 : gap_CheckRun.f 100 [5, 2, 8, 1, 9, 3, 7, 4, 6] [2, 4] = some 16 := by decide +kernel
theorem kn_k12 : peaveylaw03_Ints.f 100 [0, 0, 1, 0] [0, 0, 1, 0] = some true := by decide +kernel
theorem kn_k13 : peaveylaw03_Ints.f 100 [0, 2] [0, 2] = some true := by decide +kernel

set_option maxHeartbeats 16000000 in
set_option maxRecDepth 100000 in
theorem known_true (w : World) : Calls Try.prog 16 #[] w fun e w' => e = .returned (.bool true) ∧ Below w.heap.size w w' := by
  go_enter Try.func16, Try.ntmps16
  go_wp2_with fail
  refine (peaveylaw03_Rows.calls [5, 2, 8, 1, 9, 3, 7, 4, 6] [2, 2, 1, 2] w rfl).mono ?_
  rintro e w0 ⟨v1, v2, rfl, hh, he, hb⟩
  obtain ⟨Ah, ch, rfl, hl, hC⟩ := Kd.R_reads hh
  have HSh := Lib.hid (And.intro hC hl)
  clear hh hl hC
  obtain ⟨Ae, ce, rfl, hl, hC⟩ := Kd.R_reads he
  have HSe := Lib.hid (And.intro hC hl)
  have hB := Lib.hid hb
  clear he hl hC hb
  go_wp2_with fail
  obtain ⟨x1, hx1⟩ : ∃ x, x = w0.alloc (.cells #[.int .i64 0, .int .i64 1, .int .i64 0, .int .i64 (-1), .int .i64 0, .int .i64 1, .int .i64 1, .int .i64 (-1), .int .i64 (-1)] 3) := ⟨_, rfl⟩
  have hb : Below w0.heap.size w0 x1 := by rw [hx1]; exact (Below.refl _ _).alloc (Nat.le_refl _) _
  have HL := Lib.hid (reads_lit w0 [0, 1, 0, -1, 0, 1, 1, -1, -1] (by decide))
  obtain ⟨ax1, hax1⟩ : ∃ a, a = w0.heap.size := ⟨_, rfl⟩
  have HSq : Hid (Kd.C (Kd.int .i64) x1 (some ⟨ax1, 0, none⟩) ([0, 1, 0, -1, 0, 1, 1, -1, -1] : List Int).length [0, 1, 0, -1, 0, 1, 1, -1, -1] ∧ ([0, 1, 0, -1, 0, 1, 1, -1, -1] : List Int).length ≤ 9) := Lib.hid ⟨by rw [hx1, hax1]; exact HL.out, by decide⟩
  have hsx1 : x1.heap.size = ax1 + 1 := by rw [hx1, size_alloc1, hax1]
  rw [← hx1]
  (try rw [← hax1])
  have hB' := Lib.hid (hB.out.trans (hb.mono hB.out.size))
  clear hB
  have hB := hB'
  clear hB'
  have HSh := Lib.hid (And.intro (Kd.C_below HSh.out.1 hb) HSh.out.2)
  have HSe := Lib.hid (And.intro (Kd.C_below HSe.out.1 hb) HSe.out.2)
  clear hb HL hx1
  refine (gap_CheckTurning.calls Ah ch [5, 2, 8, 1, 9, 3, 7, 4, 6] 2 (some ⟨ax1, 0, none⟩) 9 [0, 1, 0, -1, 0, 1, 1, -1, -1] 6 0 x1 HSh.out.1 HSh.out.2 HSq.out.1 HSq.out.2 kn_k1).mono ?_
  rintro e w1 ⟨rfl, hb⟩
  have HSh := Lib.hid (And.intro (Kd.C_below HSh.out.1 hb) HSh.out.2)
  have HSe := Lib.hid (And.intro (Kd.C_below HSe.out.1 hb) HSe.out.2)
  have hB' := Lib.hid (hB.out.trans (hb.mono hB.out.size))
  clear hB
  have hB := hB'
  clear hB' hb
  go_wp2_with fail
  refine (gap_Most.calls 100 Ah ch [5, 2, 8, 1, 9, 3, 7, 4, 6] 0 0 0 w1 HSh.out.1 HSh.out.2 kn_k2).mono ?_
  rintro e w2 ⟨rfl, hb⟩
  have HSh := Lib.hid (And.intro (Kd.C_below HSh.out.1 hb) HSh.out.2)
  have HSe := Lib.hid (And.intro (Kd.C_below HSe.out.1 hb) HSe.out.2)
  have hB' := Lib.hid (hB.out.trans (hb.mono hB.out.size))
  clear hB
  have hB := hB'
  clear hB' hb
  go_wp2_with fail
  refine (gap_Most.calls 100 Ah ch [5, 2, 8, 1, 9, 3, 7, 4, 6] 1 4 0 w2 HSh.out.1 HSh.out.2 kn_k3).mono ?_
  rintro e w3 ⟨rfl, hb⟩
  have HSh := Lib.hid (And.intro (Kd.C_below HSh.out.1 hb) HSh.out.2)
  have HSe := Lib.hid (And.intro (Kd.C_below HSe.out.1 hb) HSe.out.2)
  have hB' := Lib.hid (hB.out.trans (hb.mono hB.out.size))
  clear hB
  have hB := hB'
  clear hB' hb
  go_wp2_with fail
  refine (gap_Most.calls 100 Ah ch [5, 2, 8, 1, 9, 3, 7, 4, 6] 3 9 0 w3 HSh.out.1 HSh.out.2 kn_k4).mono ?_
  rintro e w4 ⟨rfl, hb⟩
  have HSh := Lib.hid (And.intro (Kd.C_below HSh.out.1 hb) HSh.out.2)
  have HSe := Lib.hid (And.intro (Kd.C_below HSe.out.1 hb) HSe.out.2)
  have hB' := Lib.hid (hB.out.trans (hb.mono hB.out.size))
  clear hB
  have hB := hB'
  clear hB' hb
  go_wp2_with fail
  refine (gap_Fewest.calls Ae ce [2, 2, 1, 2] 2 0 w4 HSe.out.1 HSe.out.2 kn_k5).mono ?_
  rintro e w5 ⟨rfl, hb⟩
  have HSh := Lib.hid (And.intro (Kd.C_below HSh.out.1 hb) HSh.out.2)
  have HSe := Lib.hid (And.intro (Kd.C_below HSe.out.1 hb) HSe.out.2)
  have hB' := Lib.hid (hB.out.trans (hb.mono hB.out.size))
  clear hB
  have hB := hB'
  clear hB' hb
  go_wp2_with fail
  refine (gap_Place.calls Ae ce [2, 2, 1, 2] [0, 0, 1, 0] 0 w5 HSe.out.1 HSe.out.2 kn_k6).mono ?_
  rintro e w6 ⟨v, rfl, hrv, hb⟩
  obtain ⟨Ap, cp, rfl, hl, hC⟩ := Kd.R_reads hrv
  have HR := Lib.hid (And.intro hC hl)
  clear hrv hl hC
  have HSh := Lib.hid (And.intro (Kd.C_below HSh.out.1 hb) HSh.out.2)
  have HSe := Lib.hid (And.intro (Kd.C_below HSe.out.1 hb) HSe.out.2)
  have hB' := Lib.hid (hB.out.trans (hb.mono hB.out.size))
  clear hB
  have hB := hB'
  clear hB' hb
  have HSp := HR
  clear HR
  go_wp2_with fail
  refine (gap_Run.calls Ae ce [2, 2, 1, 2] [0, 2] 0 w6 HSe.out.1 HSe.out.2 kn_k7).mono ?_
  rintro e w7 ⟨v, rfl, hrv, hb⟩
  obtain ⟨Ar, cr, rfl, hl, hC⟩ := Kd.R_reads hrv
  have HR := Lib.hid (And.intro hC hl)
  clear hrv hl hC
  have HSh := Lib.hid (And.intro (Kd.C_below HSh.out.1 hb) HSh.out.2)
  have HSp := Lib.hid (And.intro (Kd.C_below HSp.out.1 hb) HSp.out.2)
  have hB' := Lib.hid (hB.out.trans (hb.mono hB.out.size))
  clear hB
  have hB := hB'
  clear hB' hb
  have HSr := HR
  clear HR
  go_wp2_with fail
  obtain ⟨x2, hx2⟩ : ∃ x, x = w7.alloc (.cells #[.int .i64 0, .int .i64 1, .int .i64 3] 3) := ⟨_, rfl⟩
  have hb : Below w7.heap.size w7 x2 := by rw [hx2]; exact (Below.refl _ _).alloc (Nat.le_refl _) _
  have HL := Lib.hid (reads_lit w7 [0, 1, 3] (by decide))
  obtain ⟨ax2, hax2⟩ : ∃ a, a = w7.heap.size := ⟨_, rfl⟩
  have HSq0 : Hid (Kd.C (Kd.int .i64) x2 (some ⟨ax2, 0, none⟩) ([0, 1, 3] : List Int).length [0, 1, 3] ∧ ([0, 1, 3] : List Int).length ≤ 3) := Lib.hid ⟨by rw [hx2, hax2]; exact HL.out, by decide⟩
  have hsx2 : x2.heap.size = ax2 + 1 := by rw [hx2, size_alloc1, hax2]
  rw [← hx2]
  (try rw [← hax2])
  have hB' := Lib.hid (hB.out.trans (hb.mono hB.out.size))
  clear hB
  have hB := hB'
  clear hB'
  have HSh := Lib.hid (And.intro (Kd.C_below HSh.out.1 hb) HSh.out.2)
  have HSp := Lib.hid (And.intro (Kd.C_below HSp.out.1 hb) HSp.out.2)
  have HSr := Lib.hid (And.intro (Kd.C_below HSr.out.1 hb) HSr.out.2)
  clear hb HL hx2
  obtain ⟨x3, hx3⟩ : ∃ x, x = x2.alloc (.cells #[.int .i64 2, .int .i64 5] 3) := ⟨_, rfl⟩
  have hb : Below x2.heap.size x2 x3 := by rw [hx3]; exact (Below.refl _ _).alloc (Nat.le_refl _) _
  have HL := Lib.hid (reads_lit x2 [2, 5] (by decide))
  have HSq1 : Hid (Kd.C (Kd.int .i64) x3 (some ⟨(ax2 + 1), 0, none⟩) ([2, 5] : List Int).length [2, 5] ∧ ([2, 5] : List Int).length ≤ 2) := Lib.hid ⟨by rw [hx3, ← hsx2]; exact HL.out, by decide⟩
  have hsx3 : x3.heap.size = ax2 + 2 := by rw [hx3, size_alloc1, hsx2]
  rw [← hx3]
  have hB' := Lib.hid (hB.out.trans (hb.mono hB.out.size))
  clear hB
  have hB := hB'
  clear hB'
  have HSh := Lib.hid (And.intro (Kd.C_below HSh.out.1 hb) HSh.out.2)
  have HSp := Lib.hid (And.intro (Kd.C_below HSp.out.1 hb) HSp.out.2)
  have HSr := Lib.hid (And.intro (Kd.C_below HSr.out.1 hb) HSr.out.2)
  have HSq0 := Lib.hid (And.intro (Kd.C_below HSq0.out.1 hb) HSq0.out.2)
  clear hb HL hx3
  obtain ⟨x4, hx4⟩ : ∃ x, x = x3.alloc (.cells #[.int .i64 4, .int .i64 6, .int .i64 7] 3) := ⟨_, rfl⟩
  have hb : Below x3.heap.size x3 x4 := by rw [hx4]; exact (Below.refl _ _).alloc (Nat.le_refl _) _
  have HL := Lib.hid (reads_lit x3 [4, 6, 7] (by decide))
  have HSq2 : Hid (Kd.C (Kd.int .i64) x4 (some ⟨(ax2 + 2), 0, none⟩) ([4, 6, 7] : List Int).length [4, 6, 7] ∧ ([4, 6, 7] : List Int).length ≤ 3) := Lib.hid ⟨by rw [hx4, ← hsx3]; exact HL.out, by decide⟩
  have hsx4 : x4.heap.size = ax2 + 3 := by rw [hx4, size_alloc1, hsx3]
  rw [← hx4]
  have hB' := Lib.hid (hB.out.trans (hb.mono hB.out.size))
  clear hB
  have hB := hB'
  clear hB'
  have HSh := Lib.hid (And.intro (Kd.C_below HSh.out.1 hb) HSh.out.2)
  have HSp := Lib.hid (And.intro (Kd.C_below HSp.out.1 hb) HSp.out.2)
  have HSr := Lib.hid (And.intro (Kd.C_below HSr.out.1 hb) HSr.out.2)
  have HSq0 := Lib.hid (And.intro (Kd.C_below HSq0.out.1 hb) HSq0.out.2)
  have HSq1 := Lib.hid (And.intro (Kd.C_below HSq1.out.1 hb) HSq1.out.2)
  clear hb HL hx4
  obtain ⟨x5, hx5⟩ : ∃ x, x = x4.alloc (.cells #[.int .i64 8] 3) := ⟨_, rfl⟩
  have hb : Below x4.heap.size x4 x5 := by rw [hx5]; exact (Below.refl _ _).alloc (Nat.le_refl _) _
  have HL := Lib.hid (reads_lit x4 [8] (by decide))
  have HSq3 : Hid (Kd.C (Kd.int .i64) x5 (some ⟨(ax2 + 3), 0, none⟩) ([8] : List Int).length [8] ∧ ([8] : List Int).length ≤ 1) := Lib.hid ⟨by rw [hx5, ← hsx4]; exact HL.out, by decide⟩
  have hsx5 : x5.heap.size = ax2 + 4 := by rw [hx5, size_alloc1, hsx4]
  rw [← hx5]
  have hB' := Lib.hid (hB.out.trans (hb.mono hB.out.size))
  clear hB
  have hB := hB'
  clear hB'
  have HSh := Lib.hid (And.intro (Kd.C_below HSh.out.1 hb) HSh.out.2)
  have HSp := Lib.hid (And.intro (Kd.C_below HSp.out.1 hb) HSp.out.2)
  have HSr := Lib.hid (And.intro (Kd.C_below HSr.out.1 hb) HSr.out.2)
  have HSq0 := Lib.hid (And.intro (Kd.C_below HSq0.out.1 hb) HSq0.out.2)
  have HSq1 := Lib.hid (And.intro (Kd.C_below HSq1.out.1 hb) HSq1.out.2)
  have HSq2 := Lib.hid (And.intro (Kd.C_below HSq2.out.1 hb) HSq2.out.2)
  clear hb HL hx5
  obtain ⟨x6, hx6⟩ : ∃ x, x = x5.alloc (.cells #[.slice (some ⟨ax2, 0, none⟩) 3 3, .slice (some ⟨(ax2 + 1), 0, none⟩) 2 2, .slice (some ⟨(ax2 + 2), 0, none⟩) 3 3, .slice (some ⟨(ax2 + 3), 0, none⟩) 1 1] 23) := ⟨_, rfl⟩
  have hb : Below x5.heap.size x5 x6 := by rw [hx6]; exact (Below.refl _ _).alloc (Nat.le_refl _) _
  have HL := Lib.hid (rows_lit x5 [(⟨ax2, 0, none⟩, [0, 1, 3]), (⟨(ax2 + 1), 0, none⟩, [2, 5]), (⟨(ax2 + 2), 0, none⟩, [4, 6, 7]), (⟨(ax2 + 3), 0, none⟩, [8])] (by simp) (by intro q hq; simp only [List.mem_cons, List.not_mem_nil, or_false] at hq; rcases hq with rfl | rfl | rfl | rfl; exact HSq0.out.1; exact HSq1.out.1; exact HSq2.out.1; exact HSq3.out.1))
  have HSq : Hid (Kd.C (Kd.slice 3 (Kd.int .i64)) x6 (some ⟨(ax2 + 4), 0, none⟩) ([[0, 1, 3], [2, 5], [4, 6, 7], [8]] : List (List Int)).length [[0, 1, 3], [2, 5], [4, 6, 7], [8]] ∧ ([[0, 1, 3], [2, 5], [4, 6, 7], [8]] : List (List Int)).length ≤ 4) := Lib.hid ⟨by rw [hx6, ← hsx5]; exact HL.out, by decide⟩
  have hsx6 : x6.heap.size = ax2 + 5 := by rw [hx6, size_alloc1, hsx5]
  rw [← hx6]
  have hB' := Lib.hid (hB.out.trans (hb.mono hB.out.size))
  clear hB
  have hB := hB'
  clear hB'
  have HSh := Lib.hid (And.intro (Kd.C_below HSh.out.1 hb) HSh.out.2)
  have HSp := Lib.hid (And.intro (Kd.C_below HSp.out.1 hb) HSp.out.2)
  have HSr := Lib.hid (And.intro (Kd.C_below HSr.out.1 hb) HSr.out.2)
  have HSq0 := Lib.hid (And.intro (Kd.C_below HSq0.out.1 hb) HSq0.out.2)
  have HSq1 := Lib.hid (And.intro (Kd.C_below HSq1.out.1 hb) HSq1.out.2)
  have HSq2 := Lib.hid (And.intro (Kd.C_below HSq2.out.1 hb) HSq2.out.2)
  have HSq3 := Lib.hid (And.intro (Kd.C_below HSq3.out.1 hb) HSq3.out.2)
  clear hb HL hx6
  refine (gap_CheckRuns.calls 100 Ah ch [5, 2, 8, 1, 9, 3, 7, 4, 6] 1 (some ⟨(ax2 + 4), 0, none⟩) 4 [[0, 1, 3], [2, 5], [4, 6, 7], [8]] 4 0 x6 HSh.out.1 HSh.out.2 HSq.out.1 HSq.out.2 kn_k8).mono ?_
  rintro e w8 ⟨rfl, hb⟩
  have HSh := Lib.hid (And.intro (Kd.C_below HSh.out.1 hb) HSh.out.2)
  have HSp := Lib.hid (And.intro (Kd.C_below HSp.out.1 hb) HSp.out.2)
  have HSr := Lib.hid (And.intro (Kd.C_below HSr.out.1 hb) HSr.out.2)
  have hB' := Lib.hid (hB.out.trans (hb.mono hB.out.size))
  clear hB
  have hB := hB'
  clear hB' hb
  go_wp2_with fail
  refine (gap_Shape.calls 100 none 0 ([] : List Int) [] 0 w8 ⟨rfl, by decide, fun h => absurd h (Nat.lt_irrefl _)⟩ (by decide) kn_k9).mono ?_
  rintro e w9 ⟨v, rfl, hrv, hb⟩
  obtain ⟨As, cs, rfl, hl, hC⟩ := Kd.R_reads hrv
  have HR := Lib.hid (And.intro hC hl)
  clear hrv hl hC
  have HSh := Lib.hid (And.intro (Kd.C_below HSh.out.1 hb) HSh.out.2)
  have HSp := Lib.hid (And.intro (Kd.C_below HSp.out.1 hb) HSp.out.2)
  have HSr := Lib.hid (And.intro (Kd.C_below HSr.out.1 hb) HSr.out.2)
  have hB' := Lib.hid (hB.out.trans (hb.mono hB.out.size))
  clear hB
  have hB := hB'
  clear hB' hb
  have HSs := HR
  clear HR
  go_wp2_with fail
  obtain ⟨x7, hx7⟩ : ∃ x, x = w9.alloc (.cells #[.int .i64 4, .int .i64 6, .int .i64 8] 3) := ⟨_, rfl⟩
  have hb : Below w9.heap.size w9 x7 := by rw [hx7]; exact (Below.refl _ _).alloc (Nat.le_refl _) _
  have HL := Lib.hid (reads_lit w9 [4, 6, 8] (by decide))
  obtain ⟨ax7, hax7⟩ : ∃ a, a = w9.heap.size := ⟨_, rfl⟩
  have HSq : Hid (Kd.C (Kd.int .i64) x7 (some ⟨ax7, 0, none⟩) ([4, 6, 8] : List Int).length [4, 6, 8] ∧ ([4, 6, 8] : List Int).length ≤ 3) := Lib.hid ⟨by rw [hx7, hax7]; exact HL.out, by decide⟩
  have hsx7 : x7.heap.size = ax7 + 1 := by rw [hx7, size_alloc1, hax7]
  rw [← hx7]
  (try rw [← hax7])
  have hB' := Lib.hid (hB.out.trans (hb.mono hB.out.size))
  clear hB
  have hB := hB'
  clear hB'
  have HSh := Lib.hid (And.intro (Kd.C_below HSh.out.1 hb) HSh.out.2)
  have HSp := Lib.hid (And.intro (Kd.C_below HSp.out.1 hb) HSp.out.2)
  have HSr := Lib.hid (And.intro (Kd.C_below HSr.out.1 hb) HSr.out.2)
  have HSs := Lib.hid (And.intro (Kd.C_below HSs.out.1 hb) HSs.out.2)
  clear hb HL hx7
  refine (gap_CheckRun.calls 100 Ah ch [5, 2, 8, 1, 9, 3, 7, 4, 6] (some ⟨ax7, 0, none⟩) 3 [4, 6, 8] 0 x7 HSh.out.1 HSh.out.2 HSq.out.1 HSq.out.2 kn_k10).mono ?_
  rintro e w10 ⟨rfl, hb⟩
  have HSh := Lib.hid (And.intro (Kd.C_below HSh.out.1 hb) HSh.out.2)
  have HSp := Lib.hid (And.intro (Kd.C_below HSp.out.1 hb) HSp.out.2)
  have HSr := Lib.hid (And.intro (Kd.C_below HSr.out.1 hb) HSr.out.2)
  have HSs := Lib.hid (And.intro (Kd.C_below HSs.out.1 hb) HSs.out.2)
  have hB' := Lib.hid (hB.out.trans (hb.mono hB.out.size))
  clear hB
  have hB := hB'
  clear hB' hb
  go_wp2_with fail
  obtain ⟨x8, hx8⟩ : ∃ x, x = w10.alloc (.cells #[.int .i64 2, .int .i64 4] 3) := ⟨_, rfl⟩
  have hb : Below w10.heap.size w10 x8 := by rw [hx8]; exact (Below.refl _ _).alloc (Nat.le_refl _) _
  have HL := Lib.hid (reads_lit w10 [2, 4] (by decide))
  obtain ⟨ax8, hax8⟩ : ∃ a, a = w10.heap.size := ⟨_, rfl⟩
  have HSq : Hid (Kd.C (Kd.int .i64) x8 (some ⟨ax8, 0, none⟩) ([2, 4] : List Int).length [2, 4] ∧ ([2, 4] : List Int).length ≤ 2) := Lib.hid ⟨by rw [hx8, hax8]; exact HL.out, by decide⟩
  have hsx8 : x8.heap.size = ax8 + 1 := by rw [hx8, size_alloc1, hax8]
  rw [← hx8]
  (try rw [← hax8])
  have hB' := Lib.hid (hB.out.trans (hb.mono hB.out.size))
  clear hB
  have hB := hB'
  clear hB'
  have HSh := Lib.hid (And.intro (Kd.C_below HSh.out.1 hb) HSh.out.2)
  have HSp := Lib.hid (And.intro (Kd.C_below HSp.out.1 hb) HSp.out.2)
  have HSr := Lib.hid (And.intro (Kd.C_below HSr.out.1 hb) HSr.out.2)
  have HSs := Lib.hid (And.intro (Kd.C_below HSs.out.1 hb) HSs.out.2)
  clear hb HL hx8
  refine (gap_CheckRun.calls 100 Ah ch [5, 2, 8, 1, 9, 3, 7, 4, 6] (some ⟨ax8, 0, none⟩) 2 [2, 4] 16 x8 HSh.out.1 HSh.out.2 HSq.out.1 HSq.out.2 kn_k11).mono ?_
  rintro e w11 ⟨rfl, hb⟩
  have HSp := Lib.hid (And.intro (Kd.C_below HSp.out.1 hb) HSp.out.2)
  have HSr := Lib.hid (And.intro (Kd.C_below HSr.out.1 hb) HSr.out.2)
  have HSs := Lib.hid (And.intro (Kd.C_below HSs.out.1 hb) HSs.out.2)
  have hB' := Lib.hid (hB.out.trans (hb.mono hB.out.size))
  clear hB
  have hB := hB'
  clear hB' hb
  go_wp2_with fail
  obtain ⟨x9, hx9⟩ : ∃ x, x = w11.alloc (.cells #[.int .i64 0, .int .i64 0, .int .i64 1, .int .i64 0] 3) := ⟨_, rfl⟩
  have hb : Below w11.heap.size w11 x9 := by rw [hx9]; exact (Below.refl _ _).alloc (Nat.le_refl _) _
  have HL := Lib.hid (reads_lit w11 [0, 0, 1, 0] (by decide))
  obtain ⟨ax9, hax9⟩ : ∃ a, a = w11.heap.size := ⟨_, rfl⟩
  have HSq : Hid (Kd.C (Kd.int .i64) x9 (some ⟨ax9, 0, none⟩) ([0, 0, 1, 0] : List Int).length [0, 0, 1, 0] ∧ ([0, 0, 1, 0] : List Int).length ≤ 4) := Lib.hid ⟨by rw [hx9, hax9]; exact HL.out, by decide⟩
  have hsx9 : x9.heap.size = ax9 + 1 := by rw [hx9, size_alloc1, hax9]
  rw [← hx9]
  (try rw [← hax9])
  have hB' := Lib.hid (hB.out.trans (hb.mono hB.out.size))
  clear hB
  have hB := hB'
  clear hB'
  have HSp := Lib.hid (And.intro (Kd.C_below HSp.out.1 hb) HSp.out.2)
  have HSr := Lib.hid (And.intro (Kd.C_below HSr.out.1 hb) HSr.out.2)
  have HSs := Lib.hid (And.intro (Kd.C_below HSs.out.1 hb) HSs.out.2)
  clear hb HL hx9
  refine (peaveylaw03_Ints.calls 100 Ap cp [0, 0, 1, 0] (some ⟨ax9, 0, none⟩) 4 [0, 0, 1, 0] true x9 HSp.out.1 HSp.out.2 HSq.out.1 HSq.out.2 kn_k12).mono ?_
  rintro e w12 ⟨rfl, hb'⟩
  have hb := hb'.below
  clear hb'
  have HSr := Lib.hid (And.intro (Kd.C_below HSr.out.1 hb) HSr.out.2)
  have HSs := Lib.hid (And.intro (Kd.C_below HSs.out.1 hb) HSs.out.2)
  have hB' := Lib.hid (hB.out.trans (hb.mono hB.out.size))
  clear hB
  have hB := hB'
  clear hB' hb
  go_wp2_with fail
  obtain ⟨x10, hx10⟩ : ∃ x, x = w12.alloc (.cells #[.int .i64 0, .int .i64 2] 3) := ⟨_, rfl⟩
  have hb : Below w12.heap.size w12 x10 := by rw [hx10]; exact (Below.refl _ _).alloc (Nat.le_refl _) _
  have HL := Lib.hid (reads_lit w12 [0, 2] (by decide))
  obtain ⟨ax10, hax10⟩ : ∃ a, a = w12.heap.size := ⟨_, rfl⟩
  have HSq : Hid (Kd.C (Kd.int .i64) x10 (some ⟨ax10, 0, none⟩) ([0, 2] : List Int).length [0, 2] ∧ ([0, 2] : List Int).length ≤ 2) := Lib.hid ⟨by rw [hx10, hax10]; exact HL.out, by decide⟩
  have hsx10 : x10.heap.size = ax10 + 1 := by rw [hx10, size_alloc1, hax10]
  rw [← hx10]
  (try rw [← hax10])
  have hB' := Lib.hid (hB.out.trans (hb.mono hB.out.size))
  clear hB
  have hB := hB'
  clear hB'
  have HSr := Lib.hid (And.intro (Kd.C_below HSr.out.1 hb) HSr.out.2)
  have HSs := Lib.hid (And.intro (Kd.C_below HSs.out.1 hb) HSs.out.2)
  clear hb HL hx10
  refine (peaveylaw03_Ints.calls 100 Ar cr [0, 2] (some ⟨ax10, 0, none⟩) 2 [0, 2] true x10 HSr.out.1 HSr.out.2 HSq.out.1 HSq.out.2 kn_k13).mono ?_
  rintro e w13 ⟨rfl, hb'⟩
  have hb := hb'.below
  clear hb'
  have HSs := Lib.hid (And.intro (Kd.C_below HSs.out.1 hb) HSs.out.2)
  have hB' := Lib.hid (hB.out.trans (hb.mono hB.out.size))
  clear hB
  have hB := hB'
  clear hB' hb
  go_wp2_with fail
  refine (works_true w13).mono ?_
  rintro e w14 ⟨rfl, hb⟩
  have hB' := Lib.hid (hB.out.trans (hb.mono hB.out.size))
  clear hB
  have hB := hB'
  clear hB' hb
  go_wp2
  go_ret
  exact ⟨rfl, hB.out⟩
/-- what GapKnown comes to -/
def peaveylaw03_GapKnown.f : Option Bool := some true
theorem peaveylaw03_GapKnown.calls (r : Bool) (w : World) (h : peaveylaw03_GapKnown.f = some r) : Calls Try.prog 16 #[] w fun e w' => e = .returned (.bool r) ∧ Below w.heap.size w w' := by
  obtain rfl := Option.some.inj h
  exact known_true w
end Go.Proofs.Ytmfonbonfhngnaa.Hand

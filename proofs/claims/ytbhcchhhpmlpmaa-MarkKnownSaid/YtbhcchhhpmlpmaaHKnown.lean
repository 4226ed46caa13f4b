/- The chapter's examples of marks hold: MarkKnown returns true. -/
import Derived.Test.YtbhcchhhpmlpmaaMC
import Derived.Test.YtbhcchhhpmlpmaaPrC1
namespace Go.Proofs.Ytbhcchhhpmlpmaa.Pkno
set_option linter.unusedVariables false
set_option linter.unusedSimpArgs false
open Go.RowKit Go.Maps Go.Proofs.Ytbhcchhhpmlpmaa.Hand Go.Proofs.YtbhcchhhpmlpmaaW.PrintWords Go.Proofs.YtbhcchhhpmlpmaaW.PrintLast Go.Proofs.YtbhcchhhpmlpmaaW.PrintMore Go.Proofs.Ytbhcchhhpmlpmaa.PrA Go.Proofs.Ytbhcchhhpmlpmaa.PrC

set_option maxRecDepth 100000 in
theorem ex0 : mark_Owners.f 5 1 [7, 25, 14] 7 = some ([0], 0) := by decide +kernel
set_option maxRecDepth 100000 in
theorem ex1 : mark_Owners.f 5 1 [7, 25, 14] 24 = some ([1], 0) := by decide +kernel
set_option maxRecDepth 100000 in
theorem ex2 : mark_Owners.f 5 1 [7, 25, 14] 0 = some ([], 0) := by decide +kernel
set_option maxRecDepth 100000 in
theorem ex3 : mark_Margin.f 5 1 [7, 25, 14] = some (0, 0) := by decide +kernel
set_option maxRecDepth 100000 in
theorem ex4 : mark_Told.f 5 1 [7, 25, 14] 0 = some (0, 0) := by decide +kernel
set_option maxRecDepth 100000 in
theorem ex5 : mark_Told.f 5 1 [7, 25, 14] 2 = some (0, 0) := by decide +kernel
set_option maxRecDepth 100000 in
theorem ex6 : mark_Keep.f 5 1 [7, 25, 14] 0 = some (3, 0) := by decide +kernel
set_option maxRecDepth 100000 in
theorem ex7 : mark_Keep.f 5 1 [7, 25, 14] 1 = some (16, 0) := by decide +kernel
set_option maxRecDepth 100000 in
theorem ex8 : mark_CheckFamily.f 5 1 [7, 25] [1, 2, 30, 12] [1, 2] = some 0 := by decide +kernel
theorem is0 : peaveylaw01_Ints.f 20 [0] [0] = some true := by decide +kernel
theorem is1 : peaveylaw01_Ints.f 20 [1] [1] = some true := by decide +kernel

set_option maxHeartbeats 16000000 in
set_option maxRecDepth 100000 in
theorem known_true (w : World) : Calls Try.prog 16 #[] w fun e w' => e = .returned (.bool true) ∧ Below w.heap.size w w' := by
  have hu := Try.underlying24
  have HO3 := Lib.hid (fun W => office_law 3 W (by omega))
  have HO2 := Lib.hid (fun W => office_law 2 W (by omega))
  go_enter Try.func16, Try.ntmps16
  go_wp2_with fail
  refine (HO3.out _).mono ?_
  rintro e u1 ⟨v1, rfl, hr1, hu1⟩
  obtain ⟨A1, c1, rfl, hc1, hC1⟩ := Kd.R_reads hr1
  have hl3 : (([7, 25, 14] : List Int).take 3) = [7, 25, 14] := rfl
  rw [hl3] at hc1 hC1 ⊢
  have HA := Lib.hid (And.intro hC1 (And.intro hc1 hu1))
  clear hr1 hu1 hc1 hC1 hl3
  go_wp2_with fail
  refine (HO2.out _).mono ?_
  rintro e u2 ⟨v2, rfl, hr2, hu2⟩
  obtain ⟨A2, c2, rfl, hc2, hC2⟩ := Kd.R_reads hr2
  have hl2 : (([7, 25, 14] : List Int).take 2) = [7, 25] := rfl
  rw [hl2] at hc2 hC2 ⊢
  have HA2 := Lib.hid (And.intro hC2 (And.intro hc2 hu2))
  clear hr2 hu2 hc2 hC2 hl2 HO3 HO2
  obtain ⟨w0, hw0⟩ : ∃ w0, w0 = (u2.alloc (.cells #[.int .i64 5, .int .i64 1, .slice A1 3 c1] 24)).alloc (.cells #[.int .i64 5, .int .i64 1, .slice A2 2 c2] 24) := ⟨_, rfl⟩
  have hb0 : Below u2.heap.size u2 w0 := by rw [hw0]; exact ((Below.refl _ _).alloc (Nat.le_refl _) _).alloc (by simp) _
  have hB0 := Lib.hid ((HA.out.2.2.trans (HA2.out.2.2.mono HA.out.2.2.size)).trans (hb0.mono (Nat.le_trans HA.out.2.2.size HA2.out.2.2.size)))
  have HX0 : Hid (OffAt w0 u2.heap.size A1 c1 [7, 25, 14]) := Lib.hid ⟨by rw [hw0]; refine ⟨?_, ?_, ?_⟩ <;> simp [go_sem], Kd.C_below (Kd.C_below HA.out.1 HA2.out.2.2) hb0, HA.out.2.1⟩
  have HY0 : Hid (OffAt w0 (u2.heap.size + 1) A2 c2 [7, 25]) := Lib.hid ⟨by rw [hw0]; refine ⟨?_, ?_, ?_⟩ <;> simp [go_sem], Kd.C_below HA2.out.1 hb0, HA2.out.2.1⟩
  have q0 := HX0.out.1.1
  have q1 := HX0.out.1.2.1
  have q2 := HX0.out.1.2.2
  rw [hw0] at q0 q1 q2
  clear hb0 HA HA2
  go_wp2_with fail
  rw [← hw0]
  clear hw0 q0 q1 q2
  refine (mark_Owners.calls 5 1 A1 c1 [7, 25, 14] 7 [0] 0 w0 HX0.out.2.1 HX0.out.2.2 ex0).mono ?_
  rintro e w1 ⟨v, rfl, hrv, hw⟩
  obtain ⟨S0, s0, rfl, hs, hC⟩ := Kd.R_reads hrv
  have HS0 := Lib.hid (And.intro hC hs)
  clear hrv hs hC
  have HX1 := Lib.hid (off_below HX0.out hw)
  have HY1 := Lib.hid (off_below HY0.out hw)
  have hB1 := Lib.hid (hB0.out.trans (hw.mono hB0.out.size))
  clear hw HX0 HY0 hB0
  have q0 := HX1.out.1.1
  have q1 := HX1.out.1.2.1
  have q2 := HX1.out.1.2.2
  go_wp2_with fail
  clear q0 q1 q2
  refine (mark_Owners.calls 5 1 A1 c1 [7, 25, 14] 24 [1] 0 w1 HX1.out.2.1 HX1.out.2.2 ex1).mono ?_
  rintro e w2 ⟨v, rfl, hrv, hw⟩
  obtain ⟨S1, s1, rfl, hs, hC⟩ := Kd.R_reads hrv
  have HS1 := Lib.hid (And.intro hC hs)
  clear hrv hs hC
  have HS0 := Lib.hid (And.intro (Kd.C_below HS0.out.1 hw) HS0.out.2)
  have HX2 := Lib.hid (off_below HX1.out hw)
  have HY2 := Lib.hid (off_below HY1.out hw)
  have hB2 := Lib.hid (hB1.out.trans (hw.mono hB1.out.size))
  clear hw HX1 HY1 hB1
  have q0 := HX2.out.1.1
  have q1 := HX2.out.1.2.1
  have q2 := HX2.out.1.2.2
  go_wp2_with fail
  clear q0 q1 q2
  refine (mark_Owners.calls 5 1 A1 c1 [7, 25, 14] 0 [] 0 w2 HX2.out.2.1 HX2.out.2.2 ex2).mono ?_
  rintro e w3 ⟨v, rfl, hrv, hw⟩
  obtain ⟨S2, s2, rfl, hs, hC⟩ := Kd.R_reads hrv
  have HS2 := Lib.hid (And.intro hC hs)
  clear hrv hs hC
  have HS0 := Lib.hid (And.intro (Kd.C_below HS0.out.1 hw) HS0.out.2)
  have HS1 := Lib.hid (And.intro (Kd.C_below HS1.out.1 hw) HS1.out.2)
  have HX3 := Lib.hid (off_below HX2.out hw)
  have HY3 := Lib.hid (off_below HY2.out hw)
  have hB3 := Lib.hid (hB2.out.trans (hw.mono hB2.out.size))
  clear hw HX2 HY2 hB2
  have q0 := HX3.out.1.1
  have q1 := HX3.out.1.2.1
  have q2 := HX3.out.1.2.2
  go_wp2_with fail
  clear q0 q1 q2
  refine (mark_Margin.calls 5 1 A1 c1 [7, 25, 14] 0 0 w3 HX3.out.2.1 HX3.out.2.2 ex3).mono ?_
  rintro e w4 ⟨rfl, hw⟩
  have HS0 := Lib.hid (And.intro (Kd.C_below HS0.out.1 hw) HS0.out.2)
  have HS1 := Lib.hid (And.intro (Kd.C_below HS1.out.1 hw) HS1.out.2)
  have HS2 := Lib.hid (And.intro (Kd.C_below HS2.out.1 hw) HS2.out.2)
  have HX4 := Lib.hid (off_below HX3.out hw)
  have HY4 := Lib.hid (off_below HY3.out hw)
  have hB4 := Lib.hid (hB3.out.trans (hw.mono hB3.out.size))
  clear hw HX3 HY3 hB3
  have q0 := HX4.out.1.1
  have q1 := HX4.out.1.2.1
  have q2 := HX4.out.1.2.2
  go_wp2_with fail
  clear q0 q1 q2
  refine (mark_Told.calls 5 1 A1 c1 [7, 25, 14] 0 0 0 w4 HX4.out.2.1 HX4.out.2.2 ex4).mono ?_
  rintro e w5 ⟨rfl, hw⟩
  have HS0 := Lib.hid (And.intro (Kd.C_below HS0.out.1 hw) HS0.out.2)
  have HS1 := Lib.hid (And.intro (Kd.C_below HS1.out.1 hw) HS1.out.2)
  have HS2 := Lib.hid (And.intro (Kd.C_below HS2.out.1 hw) HS2.out.2)
  have HX5 := Lib.hid (off_below HX4.out hw)
  have HY5 := Lib.hid (off_below HY4.out hw)
  have hB5 := Lib.hid (hB4.out.trans (hw.mono hB4.out.size))
  clear hw HX4 HY4 hB4
  have q0 := HX5.out.1.1
  have q1 := HX5.out.1.2.1
  have q2 := HX5.out.1.2.2
  go_wp2_with fail
  clear q0 q1 q2
  refine (mark_Told.calls 5 1 A1 c1 [7, 25, 14] 2 0 0 w5 HX5.out.2.1 HX5.out.2.2 ex5).mono ?_
  rintro e w6 ⟨rfl, hw⟩
  have HS0 := Lib.hid (And.intro (Kd.C_below HS0.out.1 hw) HS0.out.2)
  have HS1 := Lib.hid (And.intro (Kd.C_below HS1.out.1 hw) HS1.out.2)
  have HS2 := Lib.hid (And.intro (Kd.C_below HS2.out.1 hw) HS2.out.2)
  have HX6 := Lib.hid (off_below HX5.out hw)
  have HY6 := Lib.hid (off_below HY5.out hw)
  have hB6 := Lib.hid (hB5.out.trans (hw.mono hB5.out.size))
  clear hw HX5 HY5 hB5
  have q0 := HX6.out.1.1
  have q1 := HX6.out.1.2.1
  have q2 := HX6.out.1.2.2
  go_wp2_with fail
  clear q0 q1 q2
  refine (mark_Keep.calls 5 1 A1 c1 [7, 25, 14] 0 3 0 w6 HX6.out.2.1 HX6.out.2.2 ex6).mono ?_
  rintro e w7 ⟨rfl, hw⟩
  have HS0 := Lib.hid (And.intro (Kd.C_below HS0.out.1 hw) HS0.out.2)
  have HS1 := Lib.hid (And.intro (Kd.C_below HS1.out.1 hw) HS1.out.2)
  have HS2 := Lib.hid (And.intro (Kd.C_below HS2.out.1 hw) HS2.out.2)
  have HX7 := Lib.hid (off_below HX6.out hw)
  have HY7 := Lib.hid (off_below HY6.out hw)
  have hB7 := Lib.hid (hB6.out.trans (hw.mono hB6.out.size))
  clear hw HX6 HY6 hB6
  have q0 := HX7.out.1.1
  have q1 := HX7.out.1.2.1
  have q2 := HX7.out.1.2.2
  go_wp2_with fail
  clear q0 q1 q2
  refine (mark_Keep.calls 5 1 A1 c1 [7, 25, 14] 1 16 0 w7 HX7.out.2.1 HX7.out.2.2 ex7).mono ?_
  rintro e w8 ⟨rfl, hw⟩
  have HS0 := Lib.hid (And.intro (Kd.C_below HS0.out.1 hw) HS0.out.2)
  have HS1 := Lib.hid (And.intro (Kd.C_below HS1.out.1 hw) HS1.out.2)
  have HS2 := Lib.hid (And.intro (Kd.C_below HS2.out.1 hw) HS2.out.2)
  have HX8 := Lib.hid (off_below HX7.out hw)
  have HY8 := Lib.hid (off_below HY7.out hw)
  have hB8 := Lib.hid (hB7.out.trans (hw.mono hB7.out.size))
  clear hw HX7 HY7 hB7
  have q0 := HY8.out.1.1
  have q1 := HY8.out.1.2.1
  have q2 := HY8.out.1.2.2
  go_wp2_with fail
  clear q0 q1 q2
  obtain ⟨x8, hx8⟩ : ∃ x, x = w8.alloc (.cells #[.int .i64 1, .int .i64 2, .int .i64 30, .int .i64 12] 3) := ⟨_, rfl⟩
  have hb_x8 : Below w8.heap.size w8 x8 := by rw [hx8]; exact (Below.refl _ _).alloc (Nat.le_refl _) _
  have HL_x8 := Lib.hid (reads_lit w8 [1, 2, 30, 12] (by decide))
  have hsz8 : x8.heap.size = w8.heap.size + 1 := by rw [hx8]; simp
  rw [← hx8]
  have HL8 : Hid (Kd.C (Kd.int .i64) x8 (some ⟨w8.heap.size, 0, none⟩) ([1, 2, 30, 12] : List Int).length [1, 2, 30, 12]) := Lib.hid (by rw [hx8]; exact HL_x8.out)
  clear HL_x8 hx8
  obtain ⟨y8, hy8⟩ : ∃ x, x = x8.alloc (.cells #[.int .i64 1, .int .i64 2] 3) := ⟨_, rfl⟩
  have hb_y8 : Below x8.heap.size x8 y8 := by rw [hy8]; exact (Below.refl _ _).alloc (Nat.le_refl _) _
  have HL_y8 := Lib.hid (reads_lit x8 [1, 2] (by decide))
  rw [← hy8]
  have HM8 : Hid (Kd.C (Kd.int .i64) y8 (some ⟨w8.heap.size + 1, 0, none⟩) ([1, 2] : List Int).length [1, 2]) := Lib.hid (by rw [← hsz8, hy8]; exact HL_y8.out)
  clear HL_y8 hy8 hsz8
  have hb := hb_x8.trans (hb_y8.mono hb_x8.size)
  have HZ8 := Lib.hid (off_below HY8.out hb)
  have HLL := Lib.hid (Kd.C_below HL8.out hb_y8)
  refine (mark_CheckFamily.calls 5 1 A2 c2 [7, 25] (some ⟨w8.heap.size, 0, none⟩) 4 [1, 2, 30, 12] (some ⟨w8.heap.size + 1, 0, none⟩) 2 [1, 2] 0 y8 HZ8.out.2.1 HZ8.out.2.2 HLL.out (by decide) HM8.out (by decide) ex8).mono ?_
  rintro e w9 ⟨rfl, hw'⟩
  have hw := hb.trans (hw'.mono hb.size)
  have HS0 := Lib.hid (And.intro (Kd.C_below HS0.out.1 hw) HS0.out.2)
  have HS1 := Lib.hid (And.intro (Kd.C_below HS1.out.1 hw) HS1.out.2)
  have hB9 := Lib.hid (hB8.out.trans (hw.mono hB8.out.size))
  clear hw hw' hb hb_x8 hb_y8 HX8 HY8 hB8 HZ8 HL8 HM8 HLL
  go_wp2_with fail
  obtain ⟨z0, hz0⟩ : ∃ x, x = w9.alloc (.cells #[.int .i64 0] 3) := ⟨_, rfl⟩
  have hb_z0 : Below w9.heap.size w9 z0 := by rw [hz0]; exact (Below.refl _ _).alloc (Nat.le_refl _) _
  have HL_z0 := Lib.hid (reads_lit w9 [0] (by decide))
  rw [← hz0]
  have HL : Hid (Kd.C (Kd.int .i64) z0 (some ⟨w9.heap.size, 0, none⟩) ([0] : List Int).length [0]) := Lib.hid (by rw [hz0]; exact HL_z0.out)
  clear HL_z0 hz0
  refine (peaveylaw01_Ints.calls 20 S0 s0 [0] (some ⟨w9.heap.size, 0, none⟩) 1 [0] true z0 (Kd.C_below HS0.out.1 hb_z0) HS0.out.2 HL.out (by decide) is0).mono ?_
  rintro e w10 ⟨rfl, hw'⟩
  have hw := hb_z0.trans (hw'.below.mono hb_z0.size)
  have HS1 := Lib.hid (And.intro (Kd.C_below HS1.out.1 hw) HS1.out.2)
  have hB10 := Lib.hid (hB9.out.trans (hw.mono hB9.out.size))
  clear hw hw' hb_z0 HL HS0 hB9
  go_wp2_with fail
  obtain ⟨z1, hz1⟩ : ∃ x, x = w10.alloc (.cells #[.int .i64 1] 3) := ⟨_, rfl⟩
  have hb_z1 : Below w10.heap.size w10 z1 := by rw [hz1]; exact (Below.refl _ _).alloc (Nat.le_refl _) _
  have HL_z1 := Lib.hid (reads_lit w10 [1] (by decide))
  rw [← hz1]
  have HL : Hid (Kd.C (Kd.int .i64) z1 (some ⟨w10.heap.size, 0, none⟩) ([1] : List Int).length [1]) := Lib.hid (by rw [hz1]; exact HL_z1.out)
  clear HL_z1 hz1
  refine (peaveylaw01_Ints.calls 20 S1 s1 [1] (some ⟨w10.heap.size, 0, none⟩) 1 [1] true z1 (Kd.C_below HS1.out.1 hb_z1) HS1.out.2 HL.out (by decide) is1).mono ?_
  rintro e w11 ⟨rfl, hw'⟩
  have hw := hb_z1.trans (hw'.below.mono hb_z1.size)
  have hB11 := Lib.hid (hB10.out.trans (hw.mono hB10.out.size))
  clear hw hw' hb_z1 HL HS1 hB10
  go_wp2_with fail
  refine (works_true w11).mono ?_
  rintro e w12 ⟨rfl, hw⟩
  have hB12 := Lib.hid (hB11.out.trans (hw.mono hB11.out.size))
  clear hw
  go_wp2
  go_ret
  exact ⟨rfl, hB12.out⟩
def peaveylaw01_MarkKnown.f : Option Bool := some true
theorem peaveylaw01_MarkKnown.calls (r : Bool) (w : World) (h : peaveylaw01_MarkKnown.f = some r) : Calls Try.prog 16 #[] w fun e w' => e = .returned (.bool r) ∧ Below w.heap.size w w' := by
  obtain rfl := Option.some.inj h
  exact known_true w
end Go.Proofs.Ytbhcchhhpmlpmaa.Pkno

/- The law MarkLost, along the ways that are gone. -/
import Derived.Test.YtbhcchhhpmlpmaaMB
import Derived.Test.YtbhcchhhpmlpmaaMC
import Derived.Test.YtbhcchhhpmlpmaaHLaw0
import Derived.Test.YtbhcchhhpmlpmaaHTail
import Derived.Test.YtbhcchhhpmlpmaaHPart
import Derived.Test.YtbhcchhhpmlpmaaHFrees
import Derived.Test.YtbhcchhhpmlpmaaPrE1
namespace Go.Proofs.Ytbhcchhhpmlpmaa.Plst
set_option linter.unusedVariables false
set_option linter.unusedSimpArgs false
open Go.RowKit Go.Maps Go.Proofs.Ytbhcchhhpmlpmaa.Hand Go.Proofs.YtbhcchhhpmlpmaaW.PrintWords Go.Proofs.YtbhcchhhpmlpmaaW.PrintLast Go.Proofs.YtbhcchhhpmlpmaaW.PrintMore Go.Proofs.Ytbhcchhhpmlpmaa.PrA Go.Proofs.Ytbhcchhhpmlpmaa.PrC Go.Proofs.Ytbhcchhhpmlpmaa.PrE

/-- an office in a box, with its marks -/
def OffAt2 (w : World) (b : Nat) (a0 a1 : Int) (A : Option Addr) (c : Nat) (l : List Int) : Prop := RegAt w b a0 a1 A c l ∧ Kd.C (Kd.int .i64) w A l.length l
theorem off2_below {w w' : World} {b : Nat} {a0 a1 : Int} {A : Option Addr} {c : Nat} {l : List Int} (h : OffAt2 w b a0 a1 A c l) (hb : Below w.heap.size w w') : OffAt2 w' b a0 a1 A c l :=
  ⟨reg_below h.1 hb (cell_size h.1.1), Kd.C_below h.2 hb⟩

set_option maxHeartbeats 4000000 in
set_option maxRecDepth 100000 in
theorem lst_bad (a0 a1 : Int) (A : Option Addr) (c : Nat) (l : List Int) (worn more : Int) (w : World) (hr : Kd.C (Kd.int .i64) w A l.length l) (hc : l.length ≤ c) (ho : ¬ (officeN a0 a1 l = 0 ∧ a0 ≤ 8)) :
    Calls Try.prog 14 #[.agg #[.int .i64 a0, .int .i64 a1, .slice A l.length c], .int .u16 worn, .int .u8 more] w
      fun e w' => e = .returned (.bool true) ∧ Below w.heap.size w w' := by
  have hu := Try.underlying24
  obtain ⟨W, hW⟩ : ∃ W, W = w.alloc (.cells #[.int .i64 a0, .int .i64 a1, .slice A l.length c] 24) := ⟨_, rfl⟩
  have hbl : Below w.heap.size w W := by rw [hW]; exact (Below.refl w.heap.size w).alloc (Nat.le_refl _) _
  have HX := Lib.hid (show OffAt2 W w.heap.size a0 a1 A c l from ⟨by rw [hW]; refine ⟨?_, ?_, ?_⟩ <;> simp [go_sem], Kd.C_below hr hbl⟩)
  have HB := Lib.hid hbl
  have q0 := HX.out.1.1
  have q1 := HX.out.1.2.1
  have q2 := HX.out.1.2.2
  rw [hW] at q0 q1 q2
  by_cases h0 : officeN a0 a1 l = 0
  · have h8 : 8 < a0 := by
      rcases Int.lt_or_le 8 a0 with h | h
      · exact h
      · exact absurd ⟨h0, h⟩ ho
    have hF := fine_is a0 a1 l (Nat.le_refl 20)
    rw [decide_eq_true h0] at hF
    have HF := Lib.hid hF
    clear hbl hr ho hF h0
    go_enter Try.func14, Try.ntmps14
    go_wp2_with fail
    rw [← hW]
    clear hW q0 q1 q2
    refine (peaveylaw01_fine.calls 20 a0 a1 A c l true W HX.out.2 hc HF.out).mono ?_
    rintro e w1 ⟨rfl, hw⟩
    have HB1 := Lib.hid (HB.out.trans (hw.mono HB.out.size))
    have HX1 := Lib.hid (off2_below HX.out hw)
    have q0 := HX1.out.1.1
    have q1 := HX1.out.1.2.1
    have q2 := HX1.out.1.2.2
    clear hw HX HB HF HX1
    go_wp2_with fail
    clear q0 q1 q2
    refine (works_true w1).mono ?_
    rintro e w2 ⟨rfl, hw⟩
    have HB2 := Lib.hid (HB1.out.trans (hw.mono HB1.out.size))
    clear hw
    go_wp2
    go_ret
    exact ⟨rfl, HB2.out⟩
  · have hF := fine_is a0 a1 l (Nat.le_refl 20)
    rw [decide_eq_false h0] at hF
    have HF := Lib.hid hF
    clear hbl hr ho hF h0
    go_enter Try.func14, Try.ntmps14
    go_wp2_with fail
    rw [← hW]
    clear hW q0 q1 q2
    refine (peaveylaw01_fine.calls 20 a0 a1 A c l false W HX.out.2 hc HF.out).mono ?_
    rintro e w1 ⟨rfl, hw⟩
    have HB1 := Lib.hid (HB.out.trans (hw.mono HB.out.size))
    clear hw HX HB HF
    go_wp2_with fail
    refine (works_true w1).mono ?_
    rintro e w2 ⟨rfl, hw⟩
    have HB2 := Lib.hid (HB1.out.trans (hw.mono HB1.out.size))
    clear hw
    go_wp2
    go_ret
    exact ⟨rfl, HB2.out⟩

set_option maxHeartbeats 4000000 in
set_option maxRecDepth 100000 in
theorem lst_good (a0 a1 : Int) (A : Option Addr) (c : Nat) (l : List Int) (worn more : Int) (w : World) (hr : Kd.C (Kd.int .i64) w A l.length l) (hc : l.length ≤ c) (ho : officeN a0 a1 l = 0) (h8 : a0 ≤ 8)
    (wn : Nat) (d : Int) (hwn : Int.tmod worn (allN a0 + 1) = (wn : Int)) (hd : Int.tmod more (a0 - a1 + 1) = d) (hd0 : 0 ≤ d) (hd1 : a1 + d ≤ a0) (hw16 : 0 ≤ worn ∧ worn ≤ 65535) (hm8 : 0 ≤ more ∧ more ≤ 255)
    (p q f g : List Int) (m : Int) (hp : mark_Owners.f a0 a1 l (wn : Int) = some (p, 0)) (hq : mark_Owners.f a0 (a1 + d) l (wn : Int) = some (q, 0)) (hf : mark_Free.f a0 a1 l = some (f, 0)) (hg : mark_Free.f a0 (a1 + d) l = some (g, 0))
    (hm : mark_Margin.f a0 a1 l = some (m, 0)) (hn : mark_Margin.f a0 (a1 + d) l = some (m, 0)) (k : Nat) (hpq : peaveylaw01_part.f k p q = some true) (hgf : peaveylaw01_part.f k g f = some true) :
    Calls Try.prog 14 #[.agg #[.int .i64 a0, .int .i64 a1, .slice A l.length c], .int .u16 worn, .int .u8 more] w
      fun e w' => e = .returned (.bool true) ∧ Below w.heap.size w w' := by
  have hu := Try.underlying24
  have hz := office_zero ho
  have hal := allN_lt hz.2.1
  have hap := allN_pos hz.1
  have z1 := hz.1
  have z2 := hz.2.1
  have z3 := hz.2.2.1
  have z4 := hz.2.2.2.1
  obtain ⟨W, hW⟩ : ∃ W, W = w.alloc (.cells #[.int .i64 a0, .int .i64 a1, .slice A l.length c] 24) := ⟨_, rfl⟩
  have hbl : Below w.heap.size w W := by rw [hW]; exact (Below.refl w.heap.size w).alloc (Nat.le_refl _) _
  have HX := Lib.hid (show OffAt2 W w.heap.size a0 a1 A c l from ⟨by rw [hW]; refine ⟨?_, ?_, ?_⟩ <;> simp [go_sem], Kd.C_below hr hbl⟩)
  have HB := Lib.hid hbl
  have HR := Lib.hid hr
  have hF := fine_is a0 a1 l (Nat.le_refl 20)
  rw [decide_eq_true ho] at hF
  have HF := Lib.hid hF
  have HP := Lib.hid hp
  have HQ := Lib.hid hq
  have HFF := Lib.hid hf
  have HG := Lib.hid hg
  have HM := Lib.hid hm
  have HN := Lib.hid hn
  have HPQ := Lib.hid hpq
  have HGF := Lib.hid hgf
  have HZ := Lib.hid ho
  have hwr1 : IntKind.i64.wrap (a0 - a1) = a0 - a1 := IntWalk.i64_in _ (by omega)
  have hwr2 : IntKind.i64.wrap (a0 - a1 + 1) = a0 - a1 + 1 := IntWalk.i64_in _ (by omega)
  have hwr3 : IntKind.i64.wrap (a1 + d) = a1 + d := IntWalk.i64_in _ (by omega)
  have hwr4 : IntKind.i64.wrap worn = worn := IntWalk.i64_in _ (by omega)
  have hwr5 : IntKind.i64.wrap more = more := IntWalk.i64_in _ (by omega)
  have hne : ¬ (a0 - a1 + 1 = 0) := by omega
  have n8 : ¬ 8 < a0 := by omega
  have q0 := HX.out.1.1
  have q1 := HX.out.1.2.1
  have q2 := HX.out.1.2.2
  rw [hW] at q0 q1 q2
  clear hbl hr ho hF hp hq hf hg hm hn hpq hgf hz
  go_enter Try.func14, Try.ntmps14
  go_wp2_with fail
  rw [← hW]
  clear hW q0 q1 q2
  refine (peaveylaw01_fine.calls 20 a0 a1 A c l true W HX.out.2 hc HF.out).mono ?_
  rintro e w1 ⟨rfl, hw⟩
  have HB1 := Lib.hid (HB.out.trans (hw.mono HB.out.size))
  have HX1 := Lib.hid (off2_below HX.out hw)
  have q0 := HX1.out.1.1
  have q1 := HX1.out.1.2.1
  have q2 := HX1.out.1.2.2
  clear hw HX HB HF
  obtain ⟨W2, hW2⟩ : ∃ W, W = w1.alloc (.cells #[.int .i64 a0, .int .i64 a1, .slice A l.length c] 24) := ⟨_, rfl⟩
  have hb2 : Below w1.heap.size w1 W2 := by rw [hW2]; exact (Below.refl _ _).alloc (Nat.le_refl _) _
  have HB2 := Lib.hid (HB1.out.trans (hb2.mono HB1.out.size))
  have HX2 := Lib.hid (off2_below HX1.out hb2)
  have HY2 := Lib.hid (show OffAt2 W2 w1.heap.size a0 a1 A c l from ⟨by rw [hW2]; refine ⟨?_, ?_, ?_⟩ <;> simp [go_sem], Kd.C_below HX1.out.2 hb2⟩)
  have HF2 : Hid (W2.frozen? ⟨w1.heap.size, 1, none⟩ = false) := Lib.hid (by rw [hW2]; simp [go_sem])
  have HS1 : Hid (w.heap.size ≤ w1.heap.size) := Lib.hid HB1.out.size
  have HLT : Hid (w.heap.size < w1.heap.size) := Lib.hid (cell_size HX1.out.1.1)
  go_wp2_with fail
  rw [← hW2]
  clear hW2 q0 q1 q2 hb2 HX1 HB1
  have c0 := HX2.out.1.1
  have c1 := HX2.out.1.2.1
  have d1 := HY2.out.1.2.1
  have k1 := kept_cell' c0
  have k2 := kept_cell' c1
  have k3 := kept_cell' d1
  clear c0 c1 d1
  refine wp_region_kept_tail 13 W2.heap.size W2 (by kernel_rfl) (by kernel_rfl) (Below.refl _ _) ?_
  simp only [List.take_succ_cons, List.take_zero, List.drop_succ_cons, List.drop_zero]
  repeat (go_big_quiet_step (fail))
  refine wpQuiet_nil ?_
  rintro _ ⟨X, rfl⟩
  obtain ⟨w3, hw3⟩ : ∃ w3, w3 = X.1 := ⟨_, rfl⟩
  have hX := X.2
  rw [← hw3] at hX ⊢
  have HB3 := Lib.hid (HB2.out.trans (hX.mono HB2.out.size))
  have HX3 := Lib.hid (off2_below HX2.out hX)
  have HY3 := Lib.hid (off2_below HY2.out hX)
  have fz : w3.frozen? ⟨w1.heap.size, 1, none⟩ = false := (hX.frozen (cell_size HY2.out.1.2.1)).trans HF2.out
  obtain ⟨r0, r1, r2⟩ := HY3.out.1
  obtain ⟨w4, hw4⟩ : ∃ w4, w4 = w3.setCell ⟨w1.heap.size, 1, none⟩ (.int .i64 (a1 + d)) := ⟨_, rfl⟩
  have hne4 := HLT.out
  have HB4 : Hid (Below w.heap.size w w4) := Lib.hid (by rw [hw4]; exact HB3.out.setCell HS1.out _)
  have HX4 : Hid (OffAt2 w4 w.heap.size a0 a1 A c l) := Lib.hid ⟨by
    rw [hw4]
    refine ⟨?_, ?_, ?_⟩
    · rw [World.cell?_setCell_other _ _ _ _ (by simp [Nat.ne_of_lt hne4])]; exact HX3.out.1.1
    · rw [World.cell?_setCell_other _ _ _ _ (by simp [Nat.ne_of_lt hne4])]; exact HX3.out.1.2.1
    · rw [World.cell?_setCell_other _ _ _ _ (by simp [Nat.ne_of_lt hne4])]; exact HX3.out.1.2.2, Kd.C_below HR.out HB4.out⟩
  have HY4 : Hid (OffAt2 w4 w1.heap.size a0 (a1 + d) A c l) := Lib.hid ⟨by
    rw [hw4]
    refine ⟨?_, ?_, ?_⟩
    · rw [World.cell?_setCell_other _ _ _ _ (by simp)]; exact r0
    · exact World.cell?_setCell_same' _ _ _ (by rw [r1]; rfl)
    · rw [World.cell?_setCell_other _ _ _ _ (by simp)]; exact r2, Kd.C_below HR.out HB4.out⟩
  have q0 := HX4.out.1.1
  have q1 := HX4.out.1.2.1
  have q2 := HX4.out.1.2.2
  rw [hw4] at q0 q1 q2
  clear hw3 hX k1 k2 k3 X HX2 HY2 HB2 HF2 r0 r2 hne4
  have hsh : IntKind.i64.wrap (1 * 2 ^ a0.toNat) = allN a0 + 1 := by
    have h1 := shl_one z1 z2
    have : a0 = 1 ∨ a0 = 2 ∨ a0 = 3 ∨ a0 = 4 ∨ a0 = 5 ∨ a0 = 6 ∨ a0 = 7 ∨ a0 = 8 := by omega
    rcases this with e | e | e | e | e | e | e | e <;> (rw [e]; decide +kernel)
  have hsh2 : IntKind.i64.wrap (2 ^ a0.toNat) = allN a0 + 1 := by rw [← hsh, Int.one_mul]
  have hsne : ¬ (allN a0 + 1 = 0) := by omega
  go_wp2_with fail
  rw [← hw4]
  clear hw4 q0 q1 q2 r1 fz hsh hsh2 hsne hwr1 hwr2 hwr3 hwr4 hwr5 hne HX3 HY3 HB3
  refine (mark_Owners.calls a0 a1 A c l (wn : Int) p 0 w4 HX4.out.2 hc HP.out).mono ?_
  rintro e w5 ⟨v, rfl, hrv, hw⟩
  obtain ⟨Sp, sp, rfl, hs, hC⟩ := Kd.R_reads hrv
  have HSp := Lib.hid (And.intro hC hs)
  clear hrv hs hC HP
  have HX5 := Lib.hid (off2_below HX4.out hw)
  have HY5 := Lib.hid (off2_below HY4.out hw)
  have HB5 := Lib.hid (HB4.out.trans (hw.mono HB4.out.size))
  clear hw HX4 HY4 HB4
  have q0 := HY5.out.1.1
  have q1 := HY5.out.1.2.1
  have q2 := HY5.out.1.2.2
  go_wp2_with fail
  clear q0 q1 q2
  refine (mark_Owners.calls a0 (a1 + d) A c l (wn : Int) q 0 w5 HY5.out.2 hc HQ.out).mono ?_
  rintro e w6 ⟨v, rfl, hrv, hw⟩
  obtain ⟨Sq, sq, rfl, hs, hC⟩ := Kd.R_reads hrv
  have HSq := Lib.hid (And.intro hC hs)
  clear hrv hs hC HQ
  have HSp := Lib.hid (And.intro (Kd.C_below HSp.out.1 hw) HSp.out.2)
  have HX6 := Lib.hid (off2_below HX5.out hw)
  have HY6 := Lib.hid (off2_below HY5.out hw)
  have HB6 := Lib.hid (HB5.out.trans (hw.mono HB5.out.size))
  clear hw HX5 HY5 HB5
  have q0 := HX6.out.1.1
  have q1 := HX6.out.1.2.1
  have q2 := HX6.out.1.2.2
  go_wp2_with fail
  clear q0 q1 q2
  refine (mark_Free.calls a0 a1 A c l f 0 w6 HX6.out.2 hc HFF.out).mono ?_
  rintro e w7 ⟨v, rfl, hrv, hw⟩
  obtain ⟨Sf, sf, rfl, hs, hC⟩ := Kd.R_reads hrv
  have HSf := Lib.hid (And.intro hC hs)
  clear hrv hs hC HFF
  have HSp := Lib.hid (And.intro (Kd.C_below HSp.out.1 hw) HSp.out.2)
  have HSq := Lib.hid (And.intro (Kd.C_below HSq.out.1 hw) HSq.out.2)
  have HX7 := Lib.hid (off2_below HX6.out hw)
  have HY7 := Lib.hid (off2_below HY6.out hw)
  have HB7 := Lib.hid (HB6.out.trans (hw.mono HB6.out.size))
  clear hw HX6 HY6 HB6
  have q0 := HY7.out.1.1
  have q1 := HY7.out.1.2.1
  have q2 := HY7.out.1.2.2
  go_wp2_with fail
  clear q0 q1 q2
  refine (mark_Free.calls a0 (a1 + d) A c l g 0 w7 HY7.out.2 hc HG.out).mono ?_
  rintro e w8 ⟨v, rfl, hrv, hw⟩
  obtain ⟨Sg, sg, rfl, hs, hC⟩ := Kd.R_reads hrv
  have HSg := Lib.hid (And.intro hC hs)
  clear hrv hs hC HG
  have HSp := Lib.hid (And.intro (Kd.C_below HSp.out.1 hw) HSp.out.2)
  have HSq := Lib.hid (And.intro (Kd.C_below HSq.out.1 hw) HSq.out.2)
  have HSf := Lib.hid (And.intro (Kd.C_below HSf.out.1 hw) HSf.out.2)
  have HX8 := Lib.hid (off2_below HX7.out hw)
  have HY8 := Lib.hid (off2_below HY7.out hw)
  have HB8 := Lib.hid (HB7.out.trans (hw.mono HB7.out.size))
  clear hw HX7 HY7 HB7
  have q0 := HX8.out.1.1
  have q1 := HX8.out.1.2.1
  have q2 := HX8.out.1.2.2
  go_wp2_with fail
  clear q0 q1 q2
  refine (mark_Margin.calls a0 a1 A c l m 0 w8 HX8.out.2 hc HM.out).mono ?_
  rintro e w9 ⟨rfl, hw⟩
  have HSp := Lib.hid (And.intro (Kd.C_below HSp.out.1 hw) HSp.out.2)
  have HSq := Lib.hid (And.intro (Kd.C_below HSq.out.1 hw) HSq.out.2)
  have HSf := Lib.hid (And.intro (Kd.C_below HSf.out.1 hw) HSf.out.2)
  have HSg := Lib.hid (And.intro (Kd.C_below HSg.out.1 hw) HSg.out.2)
  have HX9 := Lib.hid (off2_below HX8.out hw)
  have HY9 := Lib.hid (off2_below HY8.out hw)
  have HB9 := Lib.hid (HB8.out.trans (hw.mono HB8.out.size))
  clear hw HX8 HY8 HB8
  have q0 := HY9.out.1.1
  have q1 := HY9.out.1.2.1
  have q2 := HY9.out.1.2.2
  go_wp2_with fail
  clear q0 q1 q2
  refine (mark_Margin.calls a0 (a1 + d) A c l m 0 w9 HY9.out.2 hc HN.out).mono ?_
  rintro e w10 ⟨rfl, hw⟩
  have HSp := Lib.hid (And.intro (Kd.C_below HSp.out.1 hw) HSp.out.2)
  have HSq := Lib.hid (And.intro (Kd.C_below HSq.out.1 hw) HSq.out.2)
  have HSf := Lib.hid (And.intro (Kd.C_below HSf.out.1 hw) HSf.out.2)
  have HSg := Lib.hid (And.intro (Kd.C_below HSg.out.1 hw) HSg.out.2)
  have HX10 := Lib.hid (off2_below HX9.out hw)
  have HY10 := Lib.hid (off2_below HY9.out hw)
  have HB10 := Lib.hid (HB9.out.trans (hw.mono HB9.out.size))
  clear hw HX9 HY9 HB9
  go_wp2_with fail
  refine (peaveylaw01_part.calls k Sp sp p Sq sq q true w10 HSp.out.1 HSp.out.2 HSq.out.1 HSq.out.2 HPQ.out).mono ?_
  rintro e w11 ⟨rfl, hw'⟩
  have hw := hw'.below
  have HSp := Lib.hid (And.intro (Kd.C_below HSp.out.1 hw) HSp.out.2)
  have HSq := Lib.hid (And.intro (Kd.C_below HSq.out.1 hw) HSq.out.2)
  have HSf := Lib.hid (And.intro (Kd.C_below HSf.out.1 hw) HSf.out.2)
  have HSg := Lib.hid (And.intro (Kd.C_below HSg.out.1 hw) HSg.out.2)
  have HB11 := Lib.hid (HB10.out.trans (hw.mono HB10.out.size))
  clear hw hw' HB10
  go_wp2_with fail
  refine (peaveylaw01_part.calls k Sg sg g Sf sf f true w11 HSg.out.1 HSg.out.2 HSf.out.1 HSf.out.2 HGF.out).mono ?_
  rintro e w12 ⟨rfl, hw'⟩
  have hw := hw'.below
  have HSp := Lib.hid (And.intro (Kd.C_below HSp.out.1 hw) HSp.out.2)
  have HSq := Lib.hid (And.intro (Kd.C_below HSq.out.1 hw) HSq.out.2)
  have HSf := Lib.hid (And.intro (Kd.C_below HSf.out.1 hw) HSf.out.2)
  have HSg := Lib.hid (And.intro (Kd.C_below HSg.out.1 hw) HSg.out.2)
  have HB12 := Lib.hid (HB11.out.trans (hw.mono HB11.out.size))
  clear hw hw' HB11
  go_wp2_with fail
  refine (works_true w12).mono ?_
  rintro e w13 ⟨rfl, hw⟩
  have HB13 := Lib.hid (HB12.out.trans (hw.mono HB12.out.size))
  clear hw
  go_wp2
  go_ret
  exact ⟨rfl, HB13.out⟩

theorem freeP_mono {l : List Int} {a b : Int} (hab : a ≤ b) {m : Nat} (h : freeP l b m = true) : freeP l a m = true := by
  unfold freeP at h ⊢
  rw [Bool.not_eq_true', List.any_eq_false] at h ⊢
  intro x hx hc
  refine h x hx ?_
  unfold clashB at hc ⊢
  have := of_decide_eq_true hc
  exact decide_eq_true (by omega)
def peaveylaw01_MarkLost.f (_ _ : Int) (_ : List Int) (a1 a2 : Int) : Option Bool := if (0 ≤ a1 ∧ a1 ≤ 65535) ∧ 0 ≤ a2 ∧ a2 ≤ 255 then some true else none
theorem peaveylaw01_MarkLost.calls (a0_0 : Int) (a0_1 : Int) (A0_2 : Option Addr) (c0_2 : Nat) (l0_2 : List Int) (a1 a2 : Int) (r : Bool) (w : World) (hr0_2 : Kd.C (Kd.int .i64) w A0_2 l0_2.length l0_2) (hc0_2 : l0_2.length ≤ c0_2) (h : peaveylaw01_MarkLost.f a0_0 a0_1 l0_2 a1 a2 = some r) :
    Calls Try.prog 14 #[.agg #[.int .i64 a0_0, .int .i64 a0_1, .slice A0_2 l0_2.length c0_2], .int .u16 a1, .int .u8 a2] w fun e w' => e = .returned (.bool r) ∧ Below w.heap.size w w' := by
  unfold peaveylaw01_MarkLost.f at h
  split at h
  · rename_i hb
    obtain rfl := Option.some.inj h
    by_cases ho : officeN a0_0 a0_1 l0_2 = 0 ∧ a0_0 ≤ 8
    · obtain ⟨ho, h8⟩ := ho
      have hz := office_zero ho
      have hal := allN_lt hz.2.1
      have hap := allN_pos hz.1
      obtain ⟨wn, hwn, hwl⟩ := tmod_nat (a := a1) (n := allN a0_0 + 1) hb.1.1 hb.1.2 (by omega)
      obtain ⟨d, hd, hdl⟩ := tmod_nat (a := a2) (n := a0_0 - a0_1 + 1) hb.2.1 (by omega) (by omega)
      rw [w64 (by omega)] at hwn hd
      have ho2 := office_loss (b := a0_1 + (d : Int)) ho (by omega) (by omega)
      have hp : ∀ x ∈ ownN a0_1 l0_2 wn l0_2.length, x ∈ ownN (a0_1 + (d : Int)) l0_2 wn l0_2.length := by
        intro x hx
        obtain ⟨i, hi, rfl, hc⟩ := ownN_mem.1 hx
        refine ownN_mem.2 ⟨i, hi, rfl, ?_⟩
        rw [canBe_iff] at hc ⊢
        exact ⟨hc.1, by omega⟩
      have hg : ∀ x ∈ freeTo (a0_1 + (d : Int)) l0_2 (allN a0_0).toNat, x ∈ freeTo a0_1 l0_2 (allN a0_0).toNat := by
        intro x hx
        obtain ⟨m, m1, m2, m3, m4⟩ := free_mem.1 hx
        exact free_mem.2 ⟨m, m1, m2, m3, freeP_mono (by omega) m4⟩
      have lo : ∀ b, (ownN b l0_2 wn l0_2.length).length ≤ 10000 := by
        intro b
        rw [ownN_filter, List.length_map]
        have := List.length_filter_le (fun i => canBe wn (mk l0_2 i) b) (List.range l0_2.length)
        rw [List.length_range] at this
        have := hz.2.2.2.2.1
        omega
      have lf : ∀ b, (freeTo b l0_2 (allN a0_0).toNat).length ≤ 10000 := fun b => Nat.le_trans (free_length b l0_2 _) (by omega)
      have fv : ∀ b, officeN a0_0 b l0_2 = 0 → mark_Free.f a0_0 b l0_2 = some (freeTo b l0_2 (allN a0_0).toNat, 0) := by
        intro b hb
        unfold mark_Free.f
        rw [if_neg (fun h => h hb)]
      obtain ⟨k, hk⟩ : ∃ k, k = (ownN a0_1 l0_2 wn l0_2.length).length * ((ownN (a0_1 + (d : Int)) l0_2 wn l0_2.length).length + 2) + 1 + ((freeTo (a0_1 + (d : Int)) l0_2 (allN a0_0).toNat).length * ((freeTo a0_1 l0_2 (allN a0_0).toNat).length + 2) + 1) := ⟨_, rfl⟩
      exact lst_good a0_0 a0_1 A0_2 c0_2 l0_2 a1 a2 w hr0_2 hc0_2 ho h8 wn d hwn hd (by omega) (by omega) hb.1 hb.2 _ _ _ _ _ (owners_val ho wn (by omega)) (owners_val ho2 wn (by omega)) (fv _ ho) (fv _ ho2) (margin_val ho) (margin_val ho2)
        k (part_is (lo _) (lo _) hp (by rw [hk]; exact Nat.le_add_right _ _)) (part_is (lf _) (lf _) hg (by rw [hk]; exact Nat.le_add_left _ _))
    · exact lst_bad a0_0 a0_1 A0_2 c0_2 l0_2 a1 a2 w hr0_2 hc0_2 ho
  · cases h
end Go.Proofs.Ytbhcchhhpmlpmaa.Plst

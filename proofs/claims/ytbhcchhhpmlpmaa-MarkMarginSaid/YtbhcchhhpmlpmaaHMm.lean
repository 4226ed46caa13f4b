/- The law MarkMargin, along the ways that are gone. -/
import Derived.Test.YtbhcchhhpmlpmaaMB
import Derived.Test.YtbhcchhhpmlpmaaMC
import Derived.Test.YtbhcchhhpmlpmaaHLaws
namespace Go.Proofs.Ytbhcchhhpmlpmaa.Pmar
set_option linter.unusedVariables false
set_option linter.unusedSimpArgs false
open Go.RowKit Go.Maps Go.Proofs.Ytbhcchhhpmlpmaa.Hand Go.Proofs.YtbhcchhhpmlpmaaW.PrintWords Go.Proofs.YtbhcchhhpmlpmaaW.PrintLast Go.Proofs.YtbhcchhhpmlpmaaW.PrintMore Go.Proofs.Ytbhcchhhpmlpmaa.PrA Go.Proofs.Ytbhcchhhpmlpmaa.PrC

theorem apartN_ok (p : Option (Nat × Nat)) : (apartN p).2.2 = 0 ↔ p = none := by
  cases p with
  | none => simp [apartN]
  | some q => obtain ⟨i, k⟩ := q; simp [apartN]
theorem apartN_bad {p : Option (Nat × Nat)} (h : p ≠ none) : (apartN p).2.2 = 17 := by
  cases p with
  | none => exact absurd rfl h
  | some q => obtain ⟨i, k⟩ := q; rfl
/-- an office in a box, with its marks -/
def OffAt2 (w : World) (b : Nat) (a0 a1 : Int) (A : Option Addr) (c : Nat) (l : List Int) : Prop := RegAt w b a0 a1 A c l ∧ Kd.C (Kd.int .i64) w A l.length l
theorem off2_below {w w' : World} {b : Nat} {a0 a1 : Int} {A : Option Addr} {c : Nat} {l : List Int} (h : OffAt2 w b a0 a1 A c l) (hb : Below w.heap.size w w') : OffAt2 w' b a0 a1 A c l :=
  ⟨reg_below h.1 hb (cell_size h.1.1), Kd.C_below h.2 hb⟩

set_option maxHeartbeats 4000000 in
set_option maxRecDepth 100000 in
theorem mm_bad (a0 a1 : Int) (A : Option Addr) (c : Nat) (l : List Int) (w : World) (hr : Kd.C (Kd.int .i64) w A l.length l) (hc : l.length ≤ c) (ho : officeN a0 a1 l ≠ 0) :
    Calls Try.prog 9 #[.agg #[.int .i64 a0, .int .i64 a1, .slice A l.length c]] w
      fun e w' => e = .returned (.bool true) ∧ Below w.heap.size w w' := by
  have hu := Try.underlying24
  obtain ⟨W, hW⟩ : ∃ W, W = w.alloc (.cells #[.int .i64 a0, .int .i64 a1, .slice A l.length c] 24) := ⟨_, rfl⟩
  have hbl : Below w.heap.size w W := by rw [hW]; exact (Below.refl w.heap.size w).alloc (Nat.le_refl _) _
  have HX := Lib.hid (show OffAt2 W w.heap.size a0 a1 A c l from ⟨by rw [hW]; refine ⟨?_, ?_, ?_⟩ <;> simp [go_sem], Kd.C_below hr hbl⟩)
  have HB := Lib.hid hbl
  have hF := fine_is a0 a1 l (Nat.le_refl 20)
  rw [decide_eq_false ho] at hF
  have HF := Lib.hid hF
  have q0 := HX.out.1.1
  have q1 := HX.out.1.2.1
  have q2 := HX.out.1.2.2
  rw [hW] at q0 q1 q2
  clear hbl hr ho hF
  go_enter Try.func9, Try.ntmps9
  go_wp2_with fail
  rw [← hW]
  clear hW q0 q1 q2
  refine (peaveylaw01_fine.calls 20 a0 a1 A c l false W HX.out.2 hc HF.out).mono ?_
  rintro e w1 ⟨rfl, hw⟩
  have HB1 := Lib.hid (HB.out.trans (hw.mono HB.out.size))
  clear hw HX HB HF
  go_wp2_with fail
  refine (works_true w1).mono ?_
  rintro e w2 ⟨rfl, hw⟩
  have HB2 := Lib.hid (HB1.out.trans (hw.mono HB1.out.size))
  clear hw
  go_wp2
  go_ret
  exact ⟨rfl, HB2.out⟩

set_option maxHeartbeats 4000000 in
set_option maxRecDepth 100000 in
theorem mm_good (a0 a1 : Int) (A : Option Addr) (c : Nat) (l : List Int) (w : World) (hr : Kd.C (Kd.int .i64) w A l.length l) (hc : l.length ≤ c) (ho : officeN a0 a1 l = 0) :
    Calls Try.prog 9 #[.agg #[.int .i64 a0, .int .i64 a1, .slice A l.length c]] w
      fun e w' => e = .returned (.bool true) ∧ Below w.heap.size w w' := by
  have hu := Try.underlying24
  obtain ⟨W, hW⟩ : ∃ W, W = w.alloc (.cells #[.int .i64 a0, .int .i64 a1, .slice A l.length c] 24) := ⟨_, rfl⟩
  have hbl : Below w.heap.size w W := by rw [hW]; exact (Below.refl w.heap.size w).alloc (Nat.le_refl _) _
  have HX := Lib.hid (show OffAt2 W w.heap.size a0 a1 A c l from ⟨by rw [hW]; refine ⟨?_, ?_, ?_⟩ <;> simp [go_sem], Kd.C_below hr hbl⟩)
  have HB := Lib.hid hbl
  have HR := Lib.hid hr
  have hF := fine_is a0 a1 l (Nat.le_refl 20)
  rw [decide_eq_true ho] at hF
  have HF := Lib.hid hF
  obtain ⟨m, hm⟩ : ∃ m, m = marOut a0 l l.length := ⟨_, rfl⟩
  have hM := margin_val ho
  rw [← hm] at hM
  have HM := Lib.hid hM
  have m0 : -1 ≤ m := by rw [hm]; exact marOut_ge ho
  have m1 : m ≤ a0 := by rw [hm]; exact marOut_le a0 l
  have hz := office_zero ho
  have z0 := hz.1
  have z1 := hz.2.1
  have z3 : a1 ≤ a0 := hz.2.2.2.1
  have hA := apart_val ho
  have hfit : ((apartN (pairN l a1)).2.2 = 0) ↔ a1 ≤ m := by rw [apartN_ok, hm, pair_margin ho z3]
  obtain ⟨p1, p2, p3, hp⟩ : ∃ p1 p2 p3, apartN (pairN l a1) = (p1, p2, p3) := ⟨_, _, _, rfl⟩
  rw [hp] at hA hfit
  have hfit : (p3 == 0) = decide (a1 ≤ m) := by rw [Bool.eq_iff_iff]; simpa using hfit
  have HA := Lib.hid hA
  have hA1 : ∀ b : Int, 0 ≤ b → b ≤ m → ∃ q1 q2, mark_Apart.f a0 b l = some (q1, q2, 0) := by
    intro b h0 h1
    rw [apart_val (office_loss ho h0 (Int.le_trans h1 m1))]
    have := (apartN_ok (pairN l b)).2 ((pair_margin ho (Int.le_trans h1 m1)).2 (hm ▸ h1))
    exact ⟨_, _, by rw [← this]⟩
  have HA1 := Lib.hid hA1
  have hA2 : ∀ b : Int, m < b → b ≤ a0 → ∃ q1 q2, mark_Apart.f a0 b l = some (q1, q2, 17) := by
    intro b h0 h1
    rw [apart_val (office_loss ho (by omega) h1)]
    have := apartN_bad (p := pairN l b) (fun hn => by have := (pair_margin ho h1).1 hn; omega)
    exact ⟨_, _, by rw [← this]⟩
  have HA2 := Lib.hid hA2
  have q0 := HX.out.1.1
  have q1 := HX.out.1.2.1
  have q2 := HX.out.1.2.2
  rw [hW] at q0 q1 q2
  clear hbl hr ho hF hm hM hz hA hp hA1 hA2
  go_enter Try.func9, Try.ntmps9
  go_wp2_with fail
  rw [← hW]
  clear hW q0 q1 q2
  refine (peaveylaw01_fine.calls 20 a0 a1 A c l true W HX.out.2 hc HF.out).mono ?_
  rintro e w1 ⟨rfl, hw⟩
  have HB1 := Lib.hid (HB.out.trans (hw.mono HB.out.size))
  have HX1 := Lib.hid (off2_below HX.out hw)
  clear hw HX HB HF
  have q0 := HX1.out.1.1
  have q1 := HX1.out.1.2.1
  have q2 := HX1.out.1.2.2
  go_wp2_with fail
  clear q0 q1 q2
  refine (mark_Margin.calls a0 a1 A c l m 0 w1 HX1.out.2 hc HM.out).mono ?_
  rintro e w2 ⟨rfl, hw⟩
  have HB2 := Lib.hid (HB1.out.trans (hw.mono HB1.out.size))
  have HX2 := Lib.hid (off2_below HX1.out hw)
  clear hw HX1 HB1 HM
  have q0 := HX2.out.1.1
  have q1 := HX2.out.1.2.1
  have q2 := HX2.out.1.2.2
  have n0 : ¬ m < -1 := by omega
  have n1 : ¬ a0 < m := by omega
  go_wp2_with fail
  clear q0 q1 q2
  refine (mark_Apart.calls a0 a1 A c l p1 p2 p3 w2 HX2.out.2 hc HA.out).mono ?_
  rintro e w3 ⟨rfl, hw⟩
  have HB3 := Lib.hid (HB2.out.trans (hw.mono HB2.out.size))
  have HX3 := Lib.hid (off2_below HX2.out hw)
  clear hw HX2 HB2 HA
  have q0 := HX3.out.1.1
  have q1 := HX3.out.1.2.1
  have q2 := HX3.out.1.2.2
  by_cases h0 : 0 ≤ m
  · obtain ⟨W4, hW4⟩ : ∃ W, W = w3.alloc (.cells #[.int .i64 a0, .int .i64 m, .slice A l.length c] 24) := ⟨_, rfl⟩
    have hb4 : Below w3.heap.size w3 W4 := by rw [hW4]; exact (Below.refl _ _).alloc (Nat.le_refl _) _
    have HB4 := Lib.hid (HB3.out.trans (hb4.mono HB3.out.size))
    have HX4 := Lib.hid (off2_below HX3.out hb4)
    have HY4 := Lib.hid (show OffAt2 W4 w3.heap.size a0 m A c l from ⟨by rw [hW4]; refine ⟨?_, ?_, ?_⟩ <;> simp [go_sem], Kd.C_below HX3.out.2 hb4⟩)
    have HF4 : Hid (W4.frozen? ⟨w3.heap.size, 1, none⟩ = false) := Lib.hid (by rw [hW4]; simp [go_sem])
    have HZ4 : Hid (w3.heap.size < W4.heap.size) := Lib.hid (by rw [hW4]; simp)
    obtain ⟨g1, g2, hg⟩ := HA1.out m h0 (Int.le_refl m)
    have HG := Lib.hid hg
    have HS3 : Hid (w.heap.size ≤ w3.heap.size) := Lib.hid HB3.out.size
    clear hg
    by_cases hfit2 : a1 ≤ m
    all_goals
      go_wp2_with fail
      rw [← hW4]
      clear hW4 q0 q1 q2 hb4 HX3 HB3
      refine (mark_Apart.calls a0 m A c l g1 g2 0 W4 HY4.out.2 hc HG.out).mono ?_
      rintro e w5 ⟨rfl, hw⟩
      have HB5 := Lib.hid (HB4.out.trans (hw.mono HB4.out.size))
      have HX5 := Lib.hid (off2_below HX4.out hw)
      have HY5 := Lib.hid (off2_below HY4.out hw)
      have fz : w5.frozen? ⟨w3.heap.size, 1, none⟩ = false := (hw.frozen HZ4.out).trans HF4.out
      clear hw HX4 HY4 HB4 HG HF4 HZ4
      have q0 := HX5.out.1.1
      have q1 := HX5.out.1.2.1
      have q2 := HX5.out.1.2.2
      have r0 := HY5.out.1.1
      have r1 := HY5.out.1.2.1
      have r2 := HY5.out.1.2.2
      clear HX5 HY5
      by_cases h1 : m < a0
      · have hwr : IntKind.i64.wrap (m + 1) = m + 1 := IntWalk.i64_in _ (by omega)
        obtain ⟨g1, g2, hg⟩ := HA2.out (m + 1) (by omega) (by omega)
        have HG := Lib.hid hg
        clear hg
        go_wp2_with fail
        clear fz
        obtain ⟨w6, hw6⟩ : ∃ w6, w6 = w5.setCell ⟨w3.heap.size, 1, none⟩ (.int .i64 (m + 1)) := ⟨_, rfl⟩
        have HB6 : Hid (Below w.heap.size w w6) := Lib.hid (by rw [hw6]; exact HB5.out.setCell HS3.out _)
        rw [← hw6]
        clear hw6 q0 q1 q2 r0 r1 r2
        refine (mark_Apart.calls a0 (m + 1) A c l g1 g2 17 w6 (Kd.C_below HR.out HB6.out) hc HG.out).mono ?_
        rintro e w7 ⟨rfl, hw⟩
        have HB7 := Lib.hid (HB6.out.trans (hw.mono HB6.out.size))
        clear hw
        go_wp2_with fail
        refine (works_true w7).mono ?_
        rintro e w9 ⟨rfl, hw⟩
        have HB9 := Lib.hid (HB7.out.trans (hw.mono HB7.out.size))
        clear hw
        go_wp2
        go_ret
        exact ⟨rfl, HB9.out⟩
      · first
        | (exfalso; clear q0 q1 q2 r0 r1 r2 fz; omega)
        | (go_wp2_with fail
           clear q0 q1 q2
           refine (works_true w5).mono ?_
           rintro e w9 ⟨rfl, hw⟩
           have HB9 := Lib.hid (HB5.out.trans (hw.mono HB5.out.size))
           clear hw
           go_wp2
           go_ret
           exact ⟨rfl, HB9.out⟩)
  · have h1 : m < a0 := by omega
    have hwr : IntKind.i64.wrap (m + 1) = m + 1 := IntWalk.i64_in _ (by omega)
    obtain ⟨g1, g2, hg⟩ := HA2.out (m + 1) (by omega) (by omega)
    have HG := Lib.hid hg
    obtain ⟨W4, hW4⟩ : ∃ W, W = w3.alloc (.cells #[.int .i64 a0, .int .i64 a1, .slice A l.length c] 24) := ⟨_, rfl⟩
    have hb4 : Below w3.heap.size w3 W4 := by rw [hW4]; exact (Below.refl _ _).alloc (Nat.le_refl _) _
    have HX4 := Lib.hid (off2_below HX3.out hb4)
    have r0 := HX4.out.1.1
    have r1 := HX4.out.1.2.1
    have r2 := HX4.out.1.2.2
    rw [hW4] at r0 r1 r2
    have HB6 : Hid (Below w.heap.size w (w3.alloc (.cells #[.int .i64 a0, .int .i64 (m + 1), .slice A l.length c] 24))) := Lib.hid (HB3.out.alloc HB3.out.size _)
    clear hg HX3 HX4 hW4 hb4 HB3
    by_cases hfit2 : a1 ≤ m
    all_goals
      go_wp2_with fail
      obtain ⟨w6, hw6⟩ : ∃ w6, w6 = w3.alloc (.cells #[.int .i64 a0, .int .i64 (m + 1), .slice A l.length c] 24) := ⟨_, rfl⟩
      rw [← hw6]
      rw [← hw6] at HB6
      clear hw6 q0 q1 q2 r0 r1 r2
      refine (mark_Apart.calls a0 (m + 1) A c l g1 g2 17 w6 (Kd.C_below HR.out HB6.out) hc HG.out).mono ?_
      rintro e w7 ⟨rfl, hw⟩
      have HB7 := Lib.hid (HB6.out.trans (hw.mono HB6.out.size))
      clear hw
      go_wp2_with fail
      refine (works_true w7).mono ?_
      rintro e w9 ⟨rfl, hw⟩
      have HB9 := Lib.hid (HB7.out.trans (hw.mono HB7.out.size))
      clear hw
      go_wp2
      go_ret
      exact ⟨rfl, HB9.out⟩

def peaveylaw01_MarkMargin.f (_ _ : Int) (_ : List Int) : Option Bool := some true
theorem peaveylaw01_MarkMargin.calls (a0_0 : Int) (a0_1 : Int) (A0_2 : Option Addr) (c0_2 : Nat) (l0_2 : List Int) (r : Bool) (w : World) (hr0_2 : Kd.C (Kd.int .i64) w A0_2 l0_2.length l0_2) (hc0_2 : l0_2.length ≤ c0_2) (h : peaveylaw01_MarkMargin.f a0_0 a0_1 l0_2 = some r) :
    Calls Try.prog 9 #[.agg #[.int .i64 a0_0, .int .i64 a0_1, .slice A0_2 l0_2.length c0_2]] w fun e w' => e = .returned (.bool r) ∧ Below w.heap.size w w' := by
  obtain rfl := Option.some.inj h
  by_cases ho : officeN a0_0 a0_1 l0_2 = 0
  · exact mm_good a0_0 a0_1 A0_2 c0_2 l0_2 w hr0_2 hc0_2 ho
  · exact mm_bad a0_0 a0_1 A0_2 c0_2 l0_2 w hr0_2 hc0_2 ho
end Go.Proofs.Ytbhcchhhpmlpmaa.Pmar

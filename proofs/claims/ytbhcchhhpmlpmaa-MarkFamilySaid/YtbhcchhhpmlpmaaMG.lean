/- Texts of the claim, joined: HMfy, HMfz. -/
import Derived.Test.YtbhcchhhpmlpmaaMF
import Derived.Test.YtbhcchhhpmlpmaaHRefH
import Derived.Test.YtbhcchhhpmlpmaaMC
/- The law MarkFamily, along the ways that are gone. -/
namespace Go.Proofs.Ytbhcchhhpmlpmaa.Pfam
set_option linter.unusedVariables false
set_option linter.unusedSimpArgs false
open Go.RowKit Go.Maps Go.Proofs.Ytbhcchhhpmlpmaa.Hand Go.Proofs.YtbhcchhhpmlpmaaW.PrintWords Go.Proofs.YtbhcchhhpmlpmaaW.PrintLast Go.Proofs.YtbhcchhhpmlpmaaW.PrintMore Go.Proofs.Ytbhcchhhpmlpmaa.PrA Go.Proofs.Ytbhcchhhpmlpmaa.PrC Go.Proofs.Ytbhcchhhpmlpmaa.PrE Go.Proofs.Ytbhcchhhpmlpmaa.PrW Go.Proofs.Ytbhcchhhpmlpmaa.PrY

/-- an office in a box, with its marks -/
def OffAt2 (w : World) (b : Nat) (a0 a1 : Int) (A : Option Addr) (c : Nat) (l : List Int) : Prop := RegAt w b a0 a1 A c l ∧ Kd.C (Kd.int .i64) w A l.length l
theorem off2_below {w w' : World} {b : Nat} {a0 a1 : Int} {A : Option Addr} {c : Nat} {l : List Int} (h : OffAt2 w b a0 a1 A c l) (hb : Below w.heap.size w w') : OffAt2 w' b a0 a1 A c l :=
  ⟨reg_below h.1 hb (cell_size h.1.1), Kd.C_below h.2 hb⟩

set_option maxHeartbeats 4000000 in
set_option maxRecDepth 100000 in
theorem mf_bad (a0 a1 : Int) (A : Option Addr) (c : Nat) (l : List Int) (Ab : Option Addr) (cb : Nat) (by_ : List Int) (worn : Int) (w : World) (hr : Kd.C (Kd.int .i64) w A l.length l) (hc : l.length ≤ c) (ho : ¬ (officeN a0 a1 l = 0 ∧ by_.length ≤ 40)) :
    Calls Try.prog 13 #[.agg #[.int .i64 a0, .int .i64 a1, .slice A l.length c], .slice Ab by_.length cb, .int .u16 worn] w
      fun e w' => e = .returned (.bool true) ∧ Below w.heap.size w w' := by
  have hu := Try.underlying24
  obtain ⟨W, hW⟩ : ∃ W, W = w.alloc (.cells #[.int .i64 a0, .int .i64 a1, .slice A l.length c] 24) := ⟨_, rfl⟩
  have hbl : Below w.heap.size w W := by rw [hW]; exact (Below.refl w.heap.size w).alloc (Nat.le_refl _) _
  have HX := Lib.hid (show OffAt2 W w.heap.size a0 a1 A c l from ⟨by rw [hW]; refine ⟨?_, ?_, ?_⟩ <;> simp [go_sem], Kd.C_below hr hbl⟩)
  have HB := Lib.hid hbl
  have q0 := HX.out.1.1
  have q1 := HX.out.1.2.1
  have q2 := HX.out.1.2.2
  rw [hW] at q0 q1 q2
  have hF := fine_is a0 a1 l (Nat.le_refl 20)
  obtain ⟨g, hg⟩ : ∃ g, g = decide (officeN a0 a1 l = 0) := ⟨_, rfl⟩
  rw [← hg] at hF
  have HF := Lib.hid hF
  cases g
  · clear hbl hr ho hF hg
    go_enter Try.func13, Try.ntmps13
    go_wp2_with fail
    rw [← hW]
    clear hW q0 q1 q2
    refine (peaveylaw01_fine.calls 20 a0 a1 A c l false W HX.out.2 hc HF.out).mono ?_
    rintro e w1 ⟨rfl, hw⟩
    have HB1 := Lib.hid (HB.out.trans (hw.mono HB.out.size))
    clear hw HX HB HF
    go_wp2_with fail
    refine (works_true w1).mono ?_
    rintro e w2 ⟨rfl, hw⟩
    have HB2 := Lib.hid (HB1.out.trans (hw.mono HB1.out.size))
    clear hw
    go_wp2
    go_ret
    exact ⟨rfl, HB2.out⟩
  · have h0 : officeN a0 a1 l = 0 := of_decide_eq_true hg.symm
    have h40 : (40 : Int) < (by_.length : Int) := by
      rcases Nat.lt_or_ge 40 by_.length with h | h
      · omega
      · exact absurd ⟨h0, h⟩ ho
    clear hbl hr ho hF hg h0
    go_enter Try.func13, Try.ntmps13
    go_wp2_with fail
    rw [← hW]
    clear hW q0 q1 q2
    refine (peaveylaw01_fine.calls 20 a0 a1 A c l true W HX.out.2 hc HF.out).mono ?_
    rintro e w1 ⟨rfl, hw⟩
    have HB1 := Lib.hid (HB.out.trans (hw.mono HB.out.size))
    clear hw HX HB HF
    go_wp2_with fail
    refine (works_true w1).mono ?_
    rintro e w2 ⟨rfl, hw⟩
    have HB2 := Lib.hid (HB1.out.trans (hw.mono HB1.out.size))
    clear hw
    go_wp2
    go_ret
    exact ⟨rfl, HB2.out⟩

set_option maxHeartbeats 8000000 in
set_option maxRecDepth 100000 in
theorem mf_good (a0 a1 : Int) (A : Option Addr) (c : Nat) (l : List Int) (Ab : Option Addr) (cb : Nat) (by_ : List Int) (worn : Int) (w : World) (hr : Kd.C (Kd.int .i64) w A l.length l) (hc : l.length ≤ c)
    (hbr : Kd.C (Kd.int .u16) w Ab by_.length by_) (hbc : by_.length ≤ cb) (ho : officeN a0 a1 l = 0) (h40 : by_.length ≤ 40) (hw16 : 0 ≤ worn ∧ worn ≤ 65535)
    (marks : List Int) (hn : peaveylaw01_numbers.f 20 a0 a1 l by_ = some marks) (hm12 : marks.length ≤ 12) (F : List Int) (hF12 : F.length ≤ 12)
    (hF : mark_Family.f a0 a1 l marks = some (F, 0)) (hC1 : peaveyref01_CheckFamily.f a0 a1 l marks F = some 0) (hC2 : mark_CheckFamily.f a0 a1 l marks F = some 0)
    (s : Nat) (hs : Int.tmod worn ((2 ^ marks.length : Nat) : Int) = (s : Int)) (G : List Int) (hG12 : G.length ≤ 12) (hbits : peaveyref01_Bits.f 20 (s : Int) = some G) (g : Int) (hg : mark_CheckFamily.f a0 a1 l marks G = some g)
    (hbest : g = 0 → G.length < F.length ∨ (G.length = F.length ∧ peaveylaw01_before.f 200 G F = some false))
    (p1 p2 p3 : Int) (hap : mark_Apart.f a0 a1 l = some (p1, p2, p3))
    (pk : List Int) (hpk : peaveyref01_Picked.f 20 marks F = some pk) (hpkl : pk.length = F.length) (hall : p3 = 0 → l.length + F.length ≤ 12 → ∃ r1 r2, mark_Apart.f a0 a1 (l ++ pk) = some (r1, r2, 0))
    (V : List Int) (hV12 : V.length ≤ 12) (hF2 : 0 < marks.length → mark_Family.f a0 a1 l (marks.take (marks.length - 1)) = some (V, 0)) (hv : 0 < marks.length → V.length ≤ F.length ∧ F.length ≤ V.length + 1) (ht0 : marks.length = 0 → F.length = 0) :
    Calls Try.prog 13 #[.agg #[.int .i64 a0, .int .i64 a1, .slice A l.length c], .slice Ab by_.length cb, .int .u16 worn] w
      fun e w' => e = .returned (.bool true) ∧ Below w.heap.size w w' := by
  have hu := Try.underlying24
  obtain ⟨W, hW⟩ : ∃ W, W = w.alloc (.cells #[.int .i64 a0, .int .i64 a1, .slice A l.length c] 24) := ⟨_, rfl⟩
  have hbl : Below w.heap.size w W := by rw [hW]; exact (Below.refl w.heap.size w).alloc (Nat.le_refl _) _
  have HPL := Lib.hid hpkl
  clear hpkl
  have HL12 := Lib.hid (show l.length ≤ 12 from (office_zero ‹officeN a0 a1 l = 0›).2.2.2.2.1)
  have HX := Lib.hid (show OffAt2 W w.heap.size a0 a1 A c l from ⟨by rw [hW]; refine ⟨?_, ?_, ?_⟩ <;> simp [go_sem], Kd.C_below hr hbl⟩)
  have HB := Lib.hid hbl
  have HR := Lib.hid hr
  have HBY := Lib.hid hbr
  have hf := fine_is a0 a1 l (Nat.le_refl 20)
  rw [decide_eq_true ho] at hf
  have HFI := Lib.hid hf
  have HN := Lib.hid hn
  have HFA := Lib.hid hF
  have HC1 := Lib.hid hC1
  have HC2 := Lib.hid hC2
  have HBI := Lib.hid hbits
  have HGG := Lib.hid hg
  have HBEST := Lib.hid hbest
  have HAP := Lib.hid hap
  have HALL := Lib.hid hall
  have HPK := Lib.hid hpk
  have HF2 := Lib.hid hF2
  have HV := Lib.hid hv
  have HT0 := Lib.hid ht0
  have hwr4 : IntKind.i64.wrap worn = worn := IntWalk.i64_in _ (by omega)
  have n40 : ¬ (40 : Int) < (by_.length : Int) := by omega
  have HS := Lib.hid hs
  have q0 := HX.out.1.1
  have q1 := HX.out.1.2.1
  have q2 := HX.out.1.2.2
  rw [hW] at q0 q1 q2
  clear hbl hr hbr ho hf hn hF hC1 hC2 hbits hg hbest hap hall hpk hF2 hv ht0 hs
  go_enter Try.func13, Try.ntmps13
  go_wp2_with fail
  rw [← hW]
  clear hW q0 q1 q2
  refine (peaveylaw01_fine.calls 20 a0 a1 A c l true W HX.out.2 hc HFI.out).mono ?_
  rintro e w1 ⟨rfl, hw⟩
  have HB1 := Lib.hid (HB.out.trans (hw.mono HB.out.size))
  have HX1 := Lib.hid (off2_below HX.out hw)
  have q0 := HX1.out.1.1
  have q1 := HX1.out.1.2.1
  have q2 := HX1.out.1.2.2
  clear hw HX HB HFI
  go_wp2_with fail
  clear q0 q1 q2
  refine (peaveylaw01_numbers.calls 20 a0 a1 A c l Ab cb by_ marks w1 HX1.out.2 hc (Kd.C_below HBY.out HB1.out) hbc HN.out).mono ?_
  rintro e w2 ⟨v', rfl, hrv, hw⟩
  obtain ⟨SN, sn, rfl, hsn, hCN⟩ := Kd.R_reads hrv
  have HSN2 := Lib.hid (And.intro hCN hsn)
  have HB2 := Lib.hid (HB1.out.trans (hw.mono HB1.out.size))
  have HX2 := Lib.hid (off2_below HX1.out hw)
  clear hw hrv hCN hsn HX1 HB1 HN
  have q0 := HX2.out.1.1
  have q1 := HX2.out.1.2.1
  have q2 := HX2.out.1.2.2
  go_wp2_with fail
  clear q0 q1 q2
  refine (mark_Family.calls a0 a1 A c l SN sn marks F 0 w2 HX2.out.2 hc HSN2.out.1 HSN2.out.2 HFA.out).mono ?_
  rintro e w3 ⟨v', rfl, hrv, hw⟩
  obtain ⟨SF, sf, rfl, hsf, hCF⟩ := Kd.R_reads hrv
  have HSF3 := Lib.hid (And.intro hCF hsf)
  have HSN3 := Lib.hid (And.intro (Kd.C_below HSN2.out.1 hw) HSN2.out.2)
  have HB3 := Lib.hid (HB2.out.trans (hw.mono HB2.out.size))
  have HX3 := Lib.hid (off2_below HX2.out hw)
  clear hw hrv hCF hsf HX2 HB2 HSN2
  have q0 := HX3.out.1.1
  have q1 := HX3.out.1.2.1
  have q2 := HX3.out.1.2.2
  go_wp2_with fail
  clear q0 q1 q2
  refine (peaveyref01_CheckFamily.calls a0 a1 A c l SN sn marks SF sf F 0 w3 HX3.out.2 hc HSN3.out.1 HSN3.out.2 HSF3.out.1 HSF3.out.2 HC1.out).mono ?_
  rintro e w4 ⟨rfl, hw⟩
  have HSN4 := Lib.hid (And.intro (Kd.C_below HSN3.out.1 hw) HSN3.out.2)
  have HSF4 := Lib.hid (And.intro (Kd.C_below HSF3.out.1 hw) HSF3.out.2)
  have HB4 := Lib.hid (HB3.out.trans (hw.mono HB3.out.size))
  have HX4 := Lib.hid (off2_below HX3.out hw)
  clear hw HX3 HB3 HSN3 HSF3
  have q0 := HX4.out.1.1
  have q1 := HX4.out.1.2.1
  have q2 := HX4.out.1.2.2
  go_wp2_with fail
  clear q0 q1 q2
  refine (mark_CheckFamily.calls a0 a1 A c l SN sn marks SF sf F 0 w4 HX4.out.2 hc HSN4.out.1 HSN4.out.2 HSF4.out.1 HSF4.out.2 HC2.out).mono ?_
  rintro e w5 ⟨rfl, hw⟩
  have HSN5 := Lib.hid (And.intro (Kd.C_below HSN4.out.1 hw) HSN4.out.2)
  have HSF5 := Lib.hid (And.intro (Kd.C_below HSF4.out.1 hw) HSF4.out.2)
  have HB5 := Lib.hid (HB4.out.trans (hw.mono HB4.out.size))
  have HX5 := Lib.hid (off2_below HX4.out hw)
  clear hw HX4 HB4 HSN4 HSF4
  obtain ⟨P, hP⟩ : ∃ P : Nat, P = 2 ^ marks.length := ⟨_, rfl⟩
  have hPb : P ≤ 4096 := by rw [hP]; exact two_pow_le hm12
  have hpos : 0 < P := by rw [hP]; exact Nat.two_pow_pos _
  have hs' := HS.out
  have hsh1 : IntKind.i64.wrap (2 ^ marks.length) = (P : Int) := by
    rw [show ((2 : Int) ^ marks.length) = ((2 ^ marks.length : Nat) : Int) by simp, ← hP]
    exact IntWalk.i64_in _ (by omega)
  have hsh0 : IntKind.i64.wrap (1 * 2 ^ marks.length) = (P : Int) := by rw [Int.one_mul]; exact hsh1
  rw [← hP] at hs'
  have hPne : ¬ ((P : Int) = 0) := by omega
  clear hP
  go_wp2_with fail
  clear hsh0 hsh1 hPne hpos hPb hs' hwr4
  refine (peaveyref01_Bits.calls 20 (s : Int) G w5 HBI.out).mono ?_
  rintro e w6 ⟨v', rfl, hrv, hw⟩
  obtain ⟨SG, sg, rfl, hsg, hCG⟩ := Kd.R_reads hrv
  have HSG6 := Lib.hid (And.intro hCG hsg)
  have HSN6 := Lib.hid (And.intro (Kd.C_below HSN5.out.1 hw) HSN5.out.2)
  have HSF6 := Lib.hid (And.intro (Kd.C_below HSF5.out.1 hw) HSF5.out.2)
  have HB6 := Lib.hid (HB5.out.trans (hw.mono HB5.out.size))
  have HX6 := Lib.hid (off2_below HX5.out hw)
  clear hw hrv hCG hsg HX5 HB5 HSN5 HSF5
  go_upto_region 8 with (fail)
  go_cut [83] (fun v83 wc => v83 = .bool false ∧ Hid (OffAt2 wc w.heap.size a0 a1 A c l) ∧ Hid (Kd.C (Kd.int .i64) wc SN marks.length marks ∧ marks.length ≤ sn) ∧ Hid (Kd.C (Kd.int .i64) wc SF F.length F ∧ F.length ≤ sf) ∧ Hid (Below w.heap.size w wc))
  case first =>
    have q0 := HX6.out.1.1
    have q1 := HX6.out.1.2.1
    have q2 := HX6.out.1.2.2
    go_wp2_with fail
    clear q0 q1 q2
    refine (mark_CheckFamily.calls a0 a1 A c l SN sn marks SG sg G g w6 HX6.out.2 hc HSN6.out.1 HSN6.out.2 HSG6.out.1 HSG6.out.2 HGG.out).mono ?_
    rintro e w7 ⟨rfl, hw⟩
    have HSN7 := Lib.hid (And.intro (Kd.C_below HSN6.out.1 hw) HSN6.out.2)
    have HSF7 := Lib.hid (And.intro (Kd.C_below HSF6.out.1 hw) HSF6.out.2)
    have HSG7 := Lib.hid (And.intro (Kd.C_below HSG6.out.1 hw) HSG6.out.2)
    have HB7 := Lib.hid (HB6.out.trans (hw.mono HB6.out.size))
    have HX7 := Lib.hid (off2_below HX6.out hw)
    clear hw HX6 HB6 HSN6 HSF6 HSG6
    by_cases hg0 : g = 0
    · have hcase := HBEST.out hg0
      subst hg0
      by_cases hlt : G.length < F.length
      · have e1 : ¬ (F.length : Int) < (G.length : Int) := by omega
        have e2 : ((G.length : Int) == (F.length : Int)) = false := beq_eq_false_iff_ne.2 (by omega)
        clear hcase
        go_wp2_with fail
        go_meet
        case rel => exact ⟨by rw [decide_eq_false (by omega)], HX7, HSN7, HSF7, HB7⟩
      · have e1 : ¬ (F.length : Int) < (G.length : Int) := by omega
        have e2 : ((G.length : Int) == (F.length : Int)) = true := beq_iff_eq.2 (by omega)
        have HBF := Lib.hid ((hcase.resolve_left hlt).2)
        clear hcase
        go_wp2_with fail
        refine (peaveylaw01_before.calls 200 SG sg G SF sf F false w7 HSG7.out.1 HSG7.out.2 HSF7.out.1 HSF7.out.2 HBF.out).mono ?_
        rintro e w8 ⟨rfl, hw'⟩
        have hw := hw'.below
        have HSN8 := Lib.hid (And.intro (Kd.C_below HSN7.out.1 hw) HSN7.out.2)
        have HSF8 := Lib.hid (And.intro (Kd.C_below HSF7.out.1 hw) HSF7.out.2)
        have HB8 := Lib.hid (HB7.out.trans (hw.mono HB7.out.size))
        have HX8 := Lib.hid (off2_below HX7.out hw)
        clear hw hw' HX7 HB7 HSN7 HSF7 HSG7
        go_wp2_with fail
        go_meet
        case rel => exact ⟨by rw [decide_eq_false (by omega)], HX8, HSN8, HSF8, HB8⟩
    · have e0 : (g == 0) = false := beq_eq_false_iff_ne.2 hg0
      go_wp2_with fail
      go_meet
      case rel => exact ⟨rfl, HX7, HSN7, HSF7, HB7⟩
  case rest =>
    clear HX6 HB6 HSN6 HSF6 HSG6 HBEST HGG HBI
    obtain ⟨rfl, HX7, HSN7, HSF7, HB7⟩ := hcut
    have q0 := HX7.out.1.1
    have q1 := HX7.out.1.2.1
    have q2 := HX7.out.1.2.2
    go_wp2_with fail
    clear q0 q1 q2
    refine (mark_Apart.calls a0 a1 A c l p1 p2 p3 wc HX7.out.2 hc HAP.out).mono ?_
    rintro e w8 ⟨rfl, hw⟩
    have HSN8 := Lib.hid (And.intro (Kd.C_below HSN7.out.1 hw) HSN7.out.2)
    have HSF8 := Lib.hid (And.intro (Kd.C_below HSF7.out.1 hw) HSF7.out.2)
    have HB8 := Lib.hid (HB7.out.trans (hw.mono HB7.out.size))
    have HX8 := Lib.hid (off2_below HX7.out hw)
    clear hw HX7 HB7 HSN7 HSF7
    have hl12 : l.length ≤ 12 := HL12.out
    go_upto_region 11 with (fail)
    go_cut [100] (fun v100 wc => ∃ b : Bool, v100 = .bool b ∧ Hid (b = true → p3 = 0 ∧ l.length + F.length ≤ 12) ∧ Hid (OffAt2 wc w.heap.size a0 a1 A c l) ∧ Hid (Kd.C (Kd.int .i64) wc SN marks.length marks ∧ marks.length ≤ sn) ∧ Hid (Kd.C (Kd.int .i64) wc SF F.length F ∧ F.length ≤ sf) ∧ Hid (Below w.heap.size w wc))
    case first =>
      have hwr : IntKind.i64.wrap ((l.length : Int) + (F.length : Int)) = (l.length : Int) + (F.length : Int) := IntWalk.i64_in _ (by omega)
      have q2 := HX8.out.1.2.2
      by_cases hp3 : p3 = 0
      · have e1 : (p3 == 0) = true := beq_iff_eq.2 hp3
        have HP3 := Lib.hid hp3
        clear hp3
        go_wp2_with fail
        go_meet
        case rel => exact ⟨_, rfl, Lib.hid (fun h => ⟨HP3.out, by have := of_decide_eq_true h; omega⟩), HX8, HSN8, HSF8, HB8⟩
      · have e1 : (p3 == 0) = false := beq_eq_false_iff_ne.2 hp3
        clear hp3
        go_wp2_with fail
        go_meet
        case rel => exact ⟨_, rfl, Lib.hid (fun h => by cases h), HX8, HSN8, HSF8, HB8⟩
    case rest =>
      clear HX8 HB8 HSN8 HSF8
      obtain ⟨b, rfl, HBB, HX9, HSN9, HSF9, HB9⟩ := hcut
      go_upto_if 100 with (fail)
      go_cut [] (fun wc => Hid (OffAt2 wc w.heap.size a0 a1 A c l) ∧ Hid (Kd.C (Kd.int .i64) wc SN marks.length marks ∧ marks.length ≤ sn) ∧ Hid (Kd.C (Kd.int .i64) wc SF F.length F ∧ F.length ≤ sf) ∧ Hid (Below w.heap.size w wc))
      case first =>
        cases b
        · go_wp2_with fail
          go_meet
          case rel => exact ⟨HX9, HSN9, HSF9, HB9⟩
        · obtain ⟨W9, hW9⟩ : ∃ W9, W9 = wc.alloc (.cells #[.int .i64 a0, .int .i64 a1, .slice A l.length c] 24) := ⟨_, rfl⟩
          obtain ⟨W10, hW10⟩ : ∃ W10, W10 = W9.alloc (.cells #[] 3) := ⟨_, rfl⟩
          have hs9 : W9.heap.size = wc.heap.size + 1 := by rw [hW9]; simp
          have hb9 : Below wc.heap.size wc W9 := by rw [hW9]; exact (Below.refl _ _).alloc (Nat.le_refl _) _
          have hb10 : Below W9.heap.size W9 W10 := by rw [hW10]; exact (Below.refl _ _).alloc (Nat.le_refl _) _
          have HY9 := Lib.hid (show OffAt2 W9 wc.heap.size a0 a1 A c l from ⟨by rw [hW9]; refine ⟨?_, ?_, ?_⟩ <;> simp [go_sem], Kd.C_below HX9.out.2 hb9⟩)
          have hown : W10.ownsRow W9.heap.size 3 1 (.slice (some ⟨wc.heap.size + 1, 0, none⟩) 0 0) ([] : List Int).length (nums .i64 []) := by
            refine ⟨rfl, .inr ⟨wc.heap.size + 1, 0, _, rfl, by omega, by rw [hW10, ← hs9]; exact heap_alloc_last W9 _, Nat.le_refl _, by unfold maxLen; omega, rfl, ?_⟩⟩
            simp [nums]
          have HOR : Hid (Kd.R (Kd.int .i64) 3 W10 W9.heap.size (fun _ => True) (.slice (some ⟨wc.heap.size + 1, 0, none⟩) 0 0) ([] : List Int)) := Lib.hid (Kd.R_of_own (enc := Value.int .i64) (h1 := fun _ => rfl) hown (fun _ _ => trivial))
          have HB10 := Lib.hid hb10
          have HX10 := Lib.hid (off2_below (off2_below HX9.out hb9) hb10)
          have HBW9 := Lib.hid (HB9.out.trans (hb9.mono HB9.out.size))
          have HSN0 := Lib.hid (And.intro (Kd.C_below HSN9.out.1 hb9) HSN9.out.2)
          have HSF0 := Lib.hid (And.intro (Kd.C_below HSF9.out.1 hb9) HSF9.out.2)
          have HX0 := Lib.hid (off2_below HX9.out hb9)
          have HFZ := Lib.hid (show W9.frozen? ⟨wc.heap.size, 2, none⟩ = false by rw [hW9]; simp [go_sem])
          have HZ9 := Lib.hid hs9
          have HWC := Lib.hid HB9.out.size
          have q0 := HX9.out.1.1
          have q1 := HX9.out.1.2.1
          have q2 := HX9.out.1.2.2
          have r2 := HX10.out.1.2.2
          rw [hW10, hW9] at r2
          have HWB := Lib.hid hb9
          clear hs9 hb9 hb10 hown
          go_wp2_with (first | (at_builtin; rw [← hW9, ← hW10]; refine Kd.R_append_rows (Kd.int .i64) (w0 := W9) W9.heap.size rfl (.tmp 102) (.tmp 104) 22 3 (.int .i64 0) 8 rfl Try.underlying22 infoInt rfl (by decide) (by omega) (.slice (some ⟨wc.heap.size + 1, 0, none⟩) 0 0) [] l A l.length c (fun _ => True) (fun _ => False) rfl rfl HOR.out HX10.out.2 (fun _ _ h => h) (fun _ h => h.elim) (fun _ _ => trivial) HB10.out HB10.out.size (by simp; omega) ?_; intro v5 w11 ho5 hb5 hg5 _; have H11 := Lib.hid (And.intro ho5 hb5); clear ho5 hb5 hg5))
          clear hW9 hW10 q0 q1 q2 r2 HOR HX10 HB10
          have HB11 := Lib.hid (HBW9.out.trans (H11.out.2.mono HBW9.out.size))
          refine (peaveyref01_Picked.calls 20 SN sn marks SF sf F pk w11 (Kd.C_below HSN0.out.1 H11.out.2) HSN0.out.2 (Kd.C_below HSF0.out.1 H11.out.2) HSF0.out.2 HPK.out).mono ?_
          rintro e w12 ⟨v', rfl, hrv, hw⟩
          obtain ⟨SP, sp, rfl, hsp, hCP⟩ := Kd.R_reads hrv
          have HSP := Lib.hid (And.intro hCP hsp)
          have HO12 := Lib.hid (Kd.R_below H11.out.1 hw)
          have HB12 := Lib.hid (H11.out.2.trans (hw.mono H11.out.2.size))
          clear hw hrv hCP hsp H11 HB11
          go_wp2_with (first | (at_builtin; refine Kd.R_append_rows (Kd.int .i64) (w0 := W9) W9.heap.size rfl (.tmp 105) (.tmp 108) 22 3 (.int .i64 0) 8 rfl Try.underlying22 infoInt rfl (by decide) (by omega) v5 ([] ++ l) pk SP pk.length sp (fun _ => True) (fun _ => False) rfl rfl HO12.out HSP.out.1 (fun _ _ h => h) (fun _ h => h.elim) (fun _ _ => trivial) HB12.out HB12.out.size (by have h1 := HL12.out; have h2 := hF12; have h3 := HPL.out; rw [List.nil_append]; omega) ?_; intro v6 w13 ho5 hb5 hg5 _; have H13 := Lib.hid (And.intro ho5 hb5); clear ho5 hb5 hg5; obtain ⟨S6, s6, e6, hs6, hC6⟩ := Kd.R_reads H13.out.1; subst e6; have H6 := Lib.hid (And.intro hC6 hs6); clear hC6 hs6; have hlt : wc.heap.size < W9.heap.size := Nat.lt_of_lt_of_eq (Nat.lt_succ_self _) HZ9.out.symm; have fz : w13.frozen? ⟨wc.heap.size, 2, none⟩ = false := (H13.out.2.frozen hlt).trans HFZ.out; have z0 := (H13.out.2.cell (p := ⟨wc.heap.size, 0, none⟩) hlt).trans HY9.out.1.1; have z1 := (H13.out.2.cell (p := ⟨wc.heap.size, 1, none⟩) hlt).trans HY9.out.1.2.1; have z2 := (H13.out.2.cell (p := ⟨wc.heap.size, 2, none⟩) hlt).trans HY9.out.1.2.2; clear hlt))
          clear fz z0 z1 z2
          rw [← List.length_append]
          obtain ⟨w14, hw14⟩ : ∃ w14, w14 = w13.setCell ⟨wc.heap.size, 2, none⟩ (.slice S6 (l ++ pk).length s6) := ⟨_, rfl⟩
          have h14 := (Kd.R_reads' (Kd.R_far (p := ⟨wc.heap.size, 2, none⟩) (Kd.R_bound H13.out.1) (fun k hk => by have h1 := hk.2.1; have h2 := HZ9.out; simp; omega) (.slice S6 (l ++ pk).length s6))).2.2
          rw [← hw14, List.nil_append] at h14
          have hwc : Below wc.heap.size wc w14 := by rw [hw14]; exact (HWB.out.trans (H13.out.2.mono HWB.out.size)).setCell (Nat.le_refl _) _
          have HC14 := Lib.hid h14
          have HWC14 := Lib.hid hwc
          have HLS := Lib.hid (show (l ++ pk).length ≤ s6 from by have := H6.out.2; simpa using this)
          rw [← hw14]
          clear hw14 h14 hwc H13 H6
          obtain ⟨r1, r2, hr12⟩ := HALL.out (HBB.out (by trivial)).1 (HBB.out (by trivial)).2
          refine (mark_Apart.calls a0 a1 S6 s6 (l ++ pk) r1 r2 0 w14 HC14.out HLS.out hr12).mono ?_
          rintro e w15 ⟨rfl, hw⟩
          have HW15 := Lib.hid (HWC14.out.trans (hw.mono HWC14.out.size))
          clear hw
          go_wp2_with fail
          go_meet
          case rel => exact ⟨Lib.hid (off2_below HX9.out HW15.out), Lib.hid ⟨Kd.C_below HSN9.out.1 HW15.out, HSN9.out.2⟩, Lib.hid ⟨Kd.C_below HSF9.out.1 HW15.out, HSF9.out.2⟩, Lib.hid (HB9.out.trans (HW15.out.mono HB9.out.size))⟩
      case rest =>
        clear HX9 HB9 HSN9 HSF9 HBB HALL HAP HPK
        obtain ⟨HX, HSN, HSF, HB⟩ := hcut
        by_cases hm0 : marks.length = 0
        · have hF0 := HT0.out hm0
          have e1 : ((marks.length : Int) == 0) = true := beq_iff_eq.2 (by omega)
          have e2 : ((F.length : Int) == 0) = true := beq_iff_eq.2 (by omega)
          go_wp2_with fail
          refine (works_true wc).mono ?_
          rintro e w20 ⟨rfl, hw⟩
          have HB20 := Lib.hid (HB.out.trans (hw.mono HB.out.size))
          clear hw
          go_wp2
          go_ret
          exact ⟨rfl, HB20.out⟩
        · have e1 : ((marks.length : Int) == 0) = false := beq_eq_false_iff_ne.2 (by omega)
          have HPOS := Lib.hid (show 0 < marks.length by omega)
          obtain ⟨m, hm⟩ : ∃ m : Nat, m = marks.length - 1 := ⟨_, rfl⟩
          have HMM := Lib.hid hm
          have hwr : IntKind.i64.wrap ((marks.length : Int) - 1) = (m : Int) := by rw [IntWalk.i64_in _ (by omega)]; omega
          have hms : m ≤ sn := by have := HSN.out.2; omega
          have hF2 := HF2.out HPOS.out
          rw [← hm] at hF2
          have HFV := Lib.hid hF2
          obtain ⟨c0, c1, c2⟩ := HX.out.1
          clear hm hF2 hm0
          go_wp2_with fail
          have hS : Below wc.heap.size wc wc.drew := (Below.refl _ _).drew
          refine wp_region_held_list (k := 12) rfl (fun w' => Below wc.heap.size wc w') (by kernel_rfl) ?_
          generalize wc.drew = wq at hS ⊢
          refine take_list (i := 0) (v := .agg #[.int .i64 a0, .int .i64 a1, .slice A l.length c]) rfl (by kernel_rfl) (by kernel_rfl) (by kernel_rfl) (fun _ _ _ h => h) (by rfl) (by intro w' hw'; have q0 := held_now hw' c0; have q1 := held_now hw' c1; have q2 := held_now hw' c2; go_simp) hS ?_
          (try simp only [Act.put, List.setIfInBounds_toArray, List.set_cons_zero, List.set_cons_succ])
          refine take_list (i := 1) (v := .slice SN marks.length sn) rfl (by kernel_rfl) (by kernel_rfl) (by kernel_rfl) (fun _ _ _ h => h) (by rfl) (by intro w' hw'; go_simp) hS ?_
          (try simp only [Act.put, List.setIfInBounds_toArray, List.set_cons_zero, List.set_cons_succ])
          refine take_list (i := 2) (v := .slice SN marks.length sn) rfl (by kernel_rfl) (by kernel_rfl) (by kernel_rfl) (fun _ _ _ h => h) (by rfl) (by intro w' hw'; go_simp) hS ?_
          (try simp only [Act.put, List.setIfInBounds_toArray, List.set_cons_zero, List.set_cons_succ])
          refine take_list (i := 3) (v := .int .i64 marks.length) rfl (by kernel_rfl) (by kernel_rfl) (by kernel_rfl) (fun _ _ _ h => h) (by rfl) (by intro w' hw'; go_simp) hS ?_
          (try simp only [Act.put, List.setIfInBounds_toArray, List.set_cons_zero, List.set_cons_succ])
          refine take_list (i := 4) (v := .int .i64 (m : Int)) rfl (by kernel_rfl) (by kernel_rfl) (by kernel_rfl) (fun _ _ _ h => h) (by rfl) (by intro w' hw'; go_simp) hS ?_
          (try simp only [Act.put, List.setIfInBounds_toArray, List.set_cons_zero, List.set_cons_succ])
          refine take_list (i := 5) (v := .slice SN m sn) rfl (by kernel_rfl) (by kernel_rfl) (by kernel_rfl) (fun _ _ _ h => h) (by rfl) (by intro w' hw'; go_simp) hS ?_
          (try simp only [Act.put, List.setIfInBounds_toArray, List.set_cons_zero, List.set_cons_succ])
          refine step_list (i := 6) (by kernel_rfl) rfl (by rfl) (fun K hK => ?_)
          go_simp
          have hml : (marks.take m).length = m := by rw [List.length_take]; have := HMM.out; omega
          have hcall := mark_Family.calls a0 a1 A c l SN sn (marks.take m) V 0 wq (Kd.C_below HX.out.2 hS) hc (Kd.C_take (Kd.C_below HSN.out.1 hS) (by have := HMM.out; omega)) (by rw [hml]; exact hms) HFV.out
          rw [hml] at hcall
          refine hcall.mono ?_
          rintro e w21 ⟨v', rfl, hrv, hb⟩
          obtain ⟨SV, sv, rfl, hsv⟩ := Kd.R_reads hrv
          have hS2 := hS.trans (hb.mono hS.size)
          refine hK _ _ hS2 ?_
          clear hK K hS hrv hb hcall hml hsv
          have hS := hS2
          clear hS2
          (try simp only [Act.put, List.setIfInBounds_toArray, List.set_cons_zero, List.set_cons_succ])
          refine take_list (i := 7) (v := .tuple #[.slice SV V.length sv, .int .i64 0]) rfl (by kernel_rfl) (by kernel_rfl) (by kernel_rfl) (fun _ _ _ h => h) (by rfl) (by intro w' hw'; go_simp) hS ?_
          (try simp only [Act.put, List.setIfInBounds_toArray, List.set_cons_zero, List.set_cons_succ])
          refine take_list (i := 8) (v := .slice SV V.length sv) rfl (by kernel_rfl) (by kernel_rfl) (by kernel_rfl) (fun _ _ _ h => h) (by rfl) (by intro w' hw'; go_simp) hS ?_
          (try simp only [Act.put, List.setIfInBounds_toArray, List.set_cons_zero, List.set_cons_succ])
          refine take_list (i := 9) (v := .int .i64 0) rfl (by kernel_rfl) (by kernel_rfl) (by kernel_rfl) (fun _ _ _ h => h) (by rfl) (by intro w' hw'; go_simp) hS ?_
          (try simp only [Act.put, List.setIfInBounds_toArray, List.set_cons_zero, List.set_cons_succ])
          refine take_list (i := 10) (v := .slice SV V.length sv) rfl (by kernel_rfl) (by kernel_rfl) (by kernel_rfl) (fun _ _ _ h => h) (by rfl) (by intro w' hw'; go_simp) hS ?_
          (try simp only [Act.put, List.setIfInBounds_toArray, List.set_cons_zero, List.set_cons_succ])
          refine take_list (i := 11) (v := .int .i64 0) rfl (by kernel_rfl) (by kernel_rfl) (by kernel_rfl) (fun _ _ _ h => h) (by rfl) (by intro w' hw'; go_simp) hS ?_
          (try simp only [Act.put, List.setIfInBounds_toArray, List.set_cons_zero, List.set_cons_succ])
          refine wpAnyH_done (by kernel_rfl) ?_ _
          have HB21 := Lib.hid (HB.out.trans (hS.mono HB.out.size))
          have hvv := HV.out HPOS.out
          have f1 : (V.length : Int) ≤ (F.length : Int) := by omega
          have f2 : (F.length : Int) ≤ (V.length : Int) + 1 := by omega
          have f3 : V.length ≤ F.length := hvv.1
          have f4 : F.length ≤ V.length + 1 := hvv.2
          have hwr2 : IntKind.i64.wrap ((V.length : Int) + 1) = (V.length : Int) + 1 := IntWalk.i64_in _ (by omega)
          clear hS c0 c1 c2 hvv
          go_wp2_with fail
          refine (works_true w21).mono ?_
          rintro e w22 ⟨rfl, hw⟩
          have HB22 := Lib.hid (HB21.out.trans (hw.mono HB21.out.size))
          clear hw
          go_wp2
          go_ret
          exact ⟨rfl, HB22.out⟩
end Go.Proofs.Ytbhcchhhpmlpmaa.Pfam

/- The law MarkFamily: its walk and its plain law, joined. -/
namespace Go.Proofs.Ytbhcchhhpmlpmaa.Pfam
set_option linter.unusedVariables false
set_option linter.unusedSimpArgs false
open Go.RowKit Go.Maps Go.Proofs.Ytbhcchhhpmlpmaa.Hand Go.Proofs.YtbhcchhhpmlpmaaW.PrintWords Go.Proofs.YtbhcchhhpmlpmaaW.PrintLast Go.Proofs.YtbhcchhhpmlpmaaW.PrintMore Go.Proofs.Ytbhcchhhpmlpmaa.PrA Go.Proofs.Ytbhcchhhpmlpmaa.PrC Go.Proofs.Ytbhcchhhpmlpmaa.PrE Go.Proofs.Ytbhcchhhpmlpmaa.PrW Go.Proofs.Ytbhcchhhpmlpmaa.PrY

theorem family_val {a0 a1 : Int} {l marks : List Int} (h0 : askedN a0 a1 l marks = 0) {t : List Nat} (h : famLoop (joinsB a1 l marks) marks.length marks.length [] [] 0 = ints t) : mark_Family.f a0 a1 l marks = some (ints t, 0) := by
  unfold mark_Family.f
  rw [if_neg (fun g => g h0)]
  have : famV a1 l marks = ints t := h
  rw [this]
def peaveylaw01_MarkFamily.f (_ _ : Int) (_ : List Int) (l1 : List Int) (a2 : Int) : Option Bool := if (∀ x ∈ l1, 0 ≤ x ∧ x ≤ 65535) ∧ 0 ≤ a2 ∧ a2 ≤ 65535 then some true else none
theorem mf_all (a0 a1 : Int) (A : Option Addr) (c : Nat) (l : List Int) (Ab : Option Addr) (cb : Nat) (by_ : List Int) (worn : Int) (w : World) (hr : Kd.C (Kd.int .i64) w A l.length l) (hc : l.length ≤ c)
    (hbr : Kd.C (Kd.int .u16) w Ab by_.length by_) (hbc : by_.length ≤ cb) (hb : ∀ x ∈ by_, 0 ≤ x ∧ x ≤ 65535) (hw : 0 ≤ worn ∧ worn ≤ 65535) :
    Calls Try.prog 13 #[.agg #[.int .i64 a0, .int .i64 a1, .slice A l.length c], .slice Ab by_.length cb, .int .u16 worn] w
      fun e w' => e = .returned (.bool true) ∧ Below w.heap.size w w' := by
  by_cases ho : officeN a0 a1 l = 0 ∧ by_.length ≤ 40
  · obtain ⟨ho, h40⟩ := ho
    have hz := office_zero ho
    have h0 : askedN a0 a1 l (numN a0 by_) = 0 := asked_nums ho hb
    have hm12 := numN_length a0 by_
    have hnum := numbers_is a1 l by_ hz.1 hz.2.1 hb
    obtain ⟨marks, hmk⟩ : ∃ m, m = numN a0 by_ := ⟨_, rfl⟩
    rw [← hmk] at h0 hm12 hnum
    obtain ⟨t, ht1, ht2⟩ := fam_first (joinsB a1 l marks) marks.length
    obtain ⟨v, hv1, hv2⟩ := fam_first (joinsB a1 l (marks.take (marks.length - 1))) (marks.take (marks.length - 1)).length
    have tl : t.length ≤ 12 := Nat.le_trans (incr_length (Nat.zero_le _) ht2.1) (by omega)
    have vl : v.length ≤ 12 := Nat.le_trans (incr_length (Nat.zero_le _) hv2.1) (by rw [List.length_take]; omega)
    have hgt : famN a0 a1 l marks (ints t) = 0 := by rw [famN_good h0 ht2.1, if_pos ht2.2.1]
    have hpos : 0 < 2 ^ marks.length := Nat.two_pow_pos _
    obtain ⟨s, hs, hsl⟩ := tmod_nat (a := worn) (n := ((2 ^ marks.length : Nat) : Int)) hw.1 hw.2 (by omega)
    rw [w64 (by omega)] at hs
    have hs2 : s < 2 ^ marks.length := by omega
    have hu : Incr marks.length 0 (setFrom s marks.length 0) := setFrom_incr (by omega)
    have ul : (setFrom s marks.length 0).length ≤ 12 := Nat.le_trans (incr_length (Nat.zero_le _) hu) (by omega)
    have hbest : famN a0 a1 l marks (ints (setFrom s marks.length 0)) = 0 → (ints (setFrom s marks.length 0)).length < (ints t).length ∨ ((ints (setFrom s marks.length 0)).length = (ints t).length ∧ peaveylaw01_before.f 200 (ints (setFrom s marks.length 0)) (ints t) = some false) := by
      intro h
      rw [ints_length, ints_length]
      rw [famN_good h0 hu] at h
      by_cases hg : goodE (joinsB a1 l marks) [] (setFrom s marks.length 0) = true
      · rcases ht2.2.2 _ hu hg with c1 | ⟨c1, c2⟩
        · exact .inl c1
        · refine .inr ⟨c1, ?_⟩
          rw [before_is _ _ c1 (by omega), bl_lo hu ht2.1 c2]
      · rw [if_neg hg] at h; omega
    have hap := apart_val ho
    obtain ⟨p1, p2, p3, hp⟩ : ∃ p1 p2 p3, apartN (pairN l a1) = (p1, p2, p3) := ⟨_, _, _, rfl⟩
    have hpk := refPicked_is marks (ints t) (ints_in ht2.1) (k := 20) (by rw [ints_length]; omega) (by rw [ints_length]; omega)
    have hall : p3 = 0 → l.length + (ints t).length ≤ 12 → ∃ r1 r2, mark_Apart.f a0 a1 (l ++ (ints t).map (rd marks)) = some (r1, r2, 0) := by
      intro h3 hlen
      rw [ints_length] at hlen
      have hn : pairN l a1 = none := by
        cases hq : pairN l a1 with
        | none => rfl
        | some q => obtain ⟨i, k⟩ := q; rw [hq] at hp; cases hp; omega
      obtain ⟨g1, g2⟩ := all_apart h0 hn ht2.1 ht2.2.1 hlen
      rw [apart_val g1, g2]
      exact ⟨0, 0, rfl⟩
    rw [hp] at hap
    refine mf_good a0 a1 A c l Ab cb by_ worn w hr hc hbr hbc ho h40 hw marks hnum hm12 (ints t) (by rw [ints_length]; exact tl) (family_val h0 ht1) (congrArg some hgt) (congrArg some hgt)
      s hs (ints (setFrom s marks.length 0)) (by rw [ints_length]; exact ul) (refBits_is hm12 hs2 (by omega)) _ rfl hbest p1 p2 p3 hap _ hpk (by rw [List.length_map]) hall (ints v) (by rw [ints_length]; exact vl)
      (fun hpos => family_val (asked_take h0 _) hv1) (fun hpos => ?_) (fun hm0 => ?_)
    · have := one_fewer (m := marks.length - 1) (by omega) ht2 hv2
      rw [ints_length, ints_length]; exact this
    · have := incr_length (Nat.zero_le _) ht2.1
      rw [ints_length]; omega
  · exact mf_bad a0 a1 A c l Ab cb by_ worn w hr hc ho
theorem peaveylaw01_MarkFamily.calls (a0_0 : Int) (a0_1 : Int) (A0_2 : Option Addr) (c0_2 : Nat) (l0_2 : List Int) (A1 : Option Addr) (c1 : Nat) (l1 : List Int) (a2 : Int) (r : Bool) (w : World) (hr0_2 : Kd.C (Kd.int .i64) w A0_2 l0_2.length l0_2) (hc0_2 : l0_2.length ≤ c0_2)
    (hr1 : Kd.C (Kd.int .u16) w A1 l1.length l1) (hc1 : l1.length ≤ c1) (h : peaveylaw01_MarkFamily.f a0_0 a0_1 l0_2 l1 a2 = some r) :
    Calls Try.prog 13 #[.agg #[.int .i64 a0_0, .int .i64 a0_1, .slice A0_2 l0_2.length c0_2], .slice A1 l1.length c1, .int .u16 a2] w fun e w' => e = .returned (.bool r) ∧ Below w.heap.size w w' := by
  unfold peaveylaw01_MarkFamily.f at h
  split at h
  · rename_i hb
    obtain rfl := Option.some.inj h
    exact mf_all a0_0 a0_1 A0_2 c0_2 l0_2 A1 c1 l1 a2 w hr0_2 hc0_2 hr1 hc1 hb.1 hb.2
  · cases h
end Go.Proofs.Ytbhcchhhpmlpmaa.Pfam

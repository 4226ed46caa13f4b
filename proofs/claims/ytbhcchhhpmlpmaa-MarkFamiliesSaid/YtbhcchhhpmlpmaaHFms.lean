/- The law MarkFamilies, along the ways that are gone. -/
import Derived.Test.YtbhcchhhpmlpmaaHRefM
import Derived.Test.YtbhcchhhpmlpmaaHRefH
import Derived.Test.YtbhcchhhpmlpmaaPrC1
namespace Go.Proofs.Ytbhcchhhpmlpmaa.Pfms
set_option linter.unusedVariables false
set_option linter.unusedSimpArgs false
open Go.RowKit Go.Maps Go.Proofs.Ytbhcchhhpmlpmaa.Hand Go.Proofs.YtbhcchhhpmlpmaaW.PrintWords Go.Proofs.YtbhcchhhpmlpmaaW.PrintLast Go.Proofs.YtbhcchhhpmlpmaaW.PrintMore Go.Proofs.Ytbhcchhhpmlpmaa.PrA Go.Proofs.Ytbhcchhhpmlpmaa.PrC Go.Proofs.Ytbhcchhhpmlpmaa.PrW Go.Proofs.Ytbhcchhhpmlpmaa.PrZ

/-- an office in a box, with its marks -/
def OffAt2 (w : World) (b : Nat) (a0 a1 : Int) (A : Option Addr) (c : Nat) (l : List Int) : Prop := RegAt w b a0 a1 A c l ∧ Kd.C (Kd.int .i64) w A l.length l
theorem off2_below {w w' : World} {b : Nat} {a0 a1 : Int} {A : Option Addr} {c : Nat} {l : List Int} (h : OffAt2 w b a0 a1 A c l) (hb : Below w.heap.size w w') : OffAt2 w' b a0 a1 A c l :=
  ⟨reg_below h.1 hb (cell_size h.1.1), Kd.C_below h.2 hb⟩

theorem fam_length {a0 a1 : Int} {l marks F : List Int} {e : Int} (h : mark_Family.f a0 a1 l marks = some (F, e)) : F.length ≤ 10000 := by
  unfold mark_Family.f at h
  have h := Option.some.inj h
  by_cases h0 : askedN a0 a1 l marks = 0
  · rw [if_neg (fun g => g h0)] at h
    have hF : F = famV a1 l marks := (congrArg Prod.fst h).symm
    obtain ⟨t, ht1, ht2⟩ := fam_first (joinsB a1 l marks) marks.length
    have h1 : famV a1 l marks = ints t := ht1
    have h2 := incr_length (Nat.zero_le _) ht2.1
    have h3 := (asked_marks h0).2.1
    rw [hF, h1, ints_length]; omega
  · rw [if_pos h0] at h
    have hF : F = [] := (congrArg Prod.fst h).symm
    rw [hF]; simp
set_option maxHeartbeats 4000000 in
set_option maxRecDepth 100000 in
theorem fms_all (a0 a1 : Int) (A : Option Addr) (c : Nat) (l : List Int) (Am : Option Addr) (cm : Nat) (marks : List Int) (Af : Option Addr) (cf : Nat) (fam : List Int) (w : World) (hr : Kd.C (Kd.int .i64) w A l.length l) (hc : l.length ≤ c)
    (hmr : Kd.C (Kd.int .i64) w Am marks.length marks) (hmc : marks.length ≤ cm) (hfr : Kd.C (Kd.int .i64) w Af fam.length fam) (hfc : fam.length ≤ cf) :
    Calls Try.prog 7 #[.agg #[.int .i64 a0, .int .i64 a1, .slice A l.length c], .slice Am marks.length cm, .slice Af fam.length cf] w
      fun e w' => e = .returned (.bool true) ∧ Below w.heap.size w w' := by
  have hu := Try.underlying24
  obtain ⟨W, hW⟩ : ∃ W, W = w.alloc (.cells #[.int .i64 a0, .int .i64 a1, .slice A l.length c] 24) := ⟨_, rfl⟩
  have hbl : Below w.heap.size w W := by rw [hW]; exact (Below.refl w.heap.size w).alloc (Nat.le_refl _) _
  have HX := Lib.hid (show OffAt2 W w.heap.size a0 a1 A c l from ⟨by rw [hW]; refine ⟨?_, ?_, ?_⟩ <;> simp [go_sem], Kd.C_below hr hbl⟩)
  have HB := Lib.hid hbl
  have HM := Lib.hid hmr
  have HF := Lib.hid hfr
  have HG := Lib.hid (great_is a0 a1 l)
  obtain ⟨p, hp⟩ : ∃ p, mark_Family.f a0 a1 l marks = some p := ⟨_, rfl⟩
  obtain ⟨F, e⟩ := p
  have HP := Lib.hid hp
  obtain ⟨K, hK⟩ := refFamily_is a0 a1 l marks
  have hq := hK K (Nat.le_refl K)
  rw [hp] at hq
  have HQ := Lib.hid hq
  obtain ⟨t, ht⟩ : ∃ t, t = famN a0 a1 l marks fam := ⟨_, rfl⟩
  have HT := Lib.hid ht
  have hFl : F.length ≤ 10000 := fam_length hp
  have HIN := Lib.hid (show peaveylaw01_Ints.f (F.length + 1) F F = some true by rw [ints_is F F hFl (by omega), decide_eq_true rfl])
  have q0 := HX.out.1.1
  have q1 := HX.out.1.2.1
  have q2 := HX.out.1.2.2
  rw [hW] at q0 q1 q2
  clear hbl hr hmr hfr hp hK hq ht hFl
  obtain ⟨g, hg⟩ : ∃ g, g = decide (20 < l.length) := ⟨_, rfl⟩
  rw [← hg] at HG
  clear hg
  go_enter Try.func7, Try.ntmps7
  go_wp2_with fail
  rw [← hW]
  clear hW q0 q1 q2
  refine (peaveylaw01_great.calls a0 a1 A c l g W HX.out.2 hc HG.out).mono ?_
  rintro e w1 ⟨rfl, hw⟩
  have HB1 := Lib.hid (HB.out.trans (hw.mono HB.out.size))
  have HX1 := Lib.hid (off2_below HX.out hw)
  clear hw HX HB HG
  cases g
  · by_cases h1 : 20 < marks.length
    · have h1' : (20 : Int) < (marks.length : Int) := by omega
      go_wp2_with fail
      refine (works_true w1).mono ?_
      rintro e w2 ⟨rfl, hw⟩
      have HB2 := Lib.hid (HB1.out.trans (hw.mono HB1.out.size))
      clear hw
      go_wp2
      go_ret
      exact ⟨rfl, HB2.out⟩
    · have h1' : ¬ (20 : Int) < (marks.length : Int) := by omega
      by_cases h2 : 20 < fam.length
      · have h2' : (20 : Int) < (fam.length : Int) := by omega
        go_wp2_with fail
        refine (works_true w1).mono ?_
        rintro e w2 ⟨rfl, hw⟩
        have HB2 := Lib.hid (HB1.out.trans (hw.mono HB1.out.size))
        clear hw
        go_wp2
        go_ret
        exact ⟨rfl, HB2.out⟩
      · have h2' : ¬ (20 : Int) < (fam.length : Int) := by omega
        have q0 := HX1.out.1.1
        have q1 := HX1.out.1.2.1
        have q2 := HX1.out.1.2.2
        go_wp2_with fail
        clear q0 q1 q2
        refine (mark_Family.calls a0 a1 A c l Am cm marks F e w1 HX1.out.2 hc (Kd.C_below HM.out HB1.out) hmc HP.out).mono ?_
        rintro e' w2 ⟨v, rfl, hrv, hw⟩
        obtain ⟨S1, s1, rfl, hs1, hC1⟩ := Kd.R_reads hrv
        have HS1 := Lib.hid (And.intro hC1 hs1)
        have HB2 := Lib.hid (HB1.out.trans (hw.mono HB1.out.size))
        have HX2 := Lib.hid (off2_below HX1.out hw)
        clear hw hrv hC1 hs1 HX1 HB1
        have q0 := HX2.out.1.1
        have q1 := HX2.out.1.2.1
        have q2 := HX2.out.1.2.2
        go_wp2_with fail
        clear q0 q1 q2
        refine (peaveyref01_Family.calls K a0 a1 A c l Am cm marks F e w2 HX2.out.2 hc (Kd.C_below HM.out HB2.out) hmc HQ.out).mono ?_
        rintro e' w3 ⟨v, rfl, hrv, hw⟩
        obtain ⟨S2, s2, rfl, hs2, hC2⟩ := Kd.R_reads hrv
        have HS2 := Lib.hid (And.intro hC2 hs2)
        have HS1' := Lib.hid (And.intro (Kd.C_below HS1.out.1 hw) HS1.out.2)
        have HB3 := Lib.hid (HB2.out.trans (hw.mono HB2.out.size))
        have HX3 := Lib.hid (off2_below HX2.out hw)
        clear hw hrv hC2 hs2 HX2 HB2 HS1
        have k0 := kept_cell' HX3.out.1.1
        have k1 := kept_cell' HX3.out.1.2.1
        have k2 := kept_cell' HX3.out.1.2.2
        have HA := Lib.hid (fun y : Kw w3.heap.size w3 => mark_CheckFamily.calls a0 a1 A c l Am cm marks Af cf fam t y.1 (Kd.C_below HX3.out.2 y.2) hc (Kd.C_below HM.out (HB3.out.trans (y.2.mono HB3.out.size))) hmc (Kd.C_below HF.out (HB3.out.trans (y.2.mono HB3.out.size))) hfc (by rw [HT.out]; rfl))
        have HC := Lib.hid (fun y : Kw w3.heap.size w3 => peaveyref01_CheckFamily.calls a0 a1 A c l Am cm marks Af cf fam t y.1 (Kd.C_below HX3.out.2 y.2) hc (Kd.C_below HM.out (HB3.out.trans (y.2.mono HB3.out.size))) hmc (Kd.C_below HF.out (HB3.out.trans (y.2.mono HB3.out.size))) hfc (by rw [HT.out]; rfl))
        have HI := Lib.hid (fun y : Kw w3.heap.size w3 => (peaveylaw01_Ints.calls (F.length + 1) S1 s1 F S2 s2 F true y.1 (Kd.C_below HS1'.out.1 y.2) HS1'.out.2 (Kd.C_below HS2.out.1 y.2) HS2.out.2 HIN.out).mono fun _ _ h => And.intro h.1 h.2.below)
        have HWK := Lib.hid (fun y : World => works_true y)
        go_wp2_with fail
        refine wp_region_kept w3.heap.size w3 (by kernel_rfl) (by kernel_rfl) (Below.refl _ _) ?_
        repeat (go_big_quiet_step (first | with_reducible exact kept_calls _ (Nat.le_refl _) (HA.out _) | with_reducible exact kept_calls _ (Nat.le_refl _) (HC.out _) | with_reducible exact kept_calls _ (Nat.le_refl _) (HI.out _) | with_reducible exact kept_calls _ (Nat.le_refl _) (HWK.out _)))
        refine wpQuiet_nil ?_
        rintro _ ⟨X, rfl⟩
        have HB4 := Lib.hid (HB3.out.trans (X.2.mono HB3.out.size))
        go_wp2
        go_ret
        exact ⟨rfl, HB4.out⟩
  · go_wp2_with fail
    refine (works_true w1).mono ?_
    rintro e w2 ⟨rfl, hw⟩
    have HB2 := Lib.hid (HB1.out.trans (hw.mono HB1.out.size))
    clear hw
    go_wp2
    go_ret
    exact ⟨rfl, HB2.out⟩

def peaveylaw01_MarkFamilies.f (_ _ : Int) (_ _ _ : List Int) : Option Bool := some true
theorem peaveylaw01_MarkFamilies.calls (a0_0 : Int) (a0_1 : Int) (A0_2 : Option Addr) (c0_2 : Nat) (l0_2 : List Int) (A1 : Option Addr) (c1 : Nat) (l1 : List Int) (A2 : Option Addr) (c2 : Nat) (l2 : List Int) (r : Bool) (w : World) (hr0_2 : Kd.C (Kd.int .i64) w A0_2 l0_2.length l0_2) (hc0_2 : l0_2.length ≤ c0_2)
    (hr1 : Kd.C (Kd.int .i64) w A1 l1.length l1) (hc1 : l1.length ≤ c1) (hr2 : Kd.C (Kd.int .i64) w A2 l2.length l2) (hc2 : l2.length ≤ c2) (h : peaveylaw01_MarkFamilies.f a0_0 a0_1 l0_2 l1 l2 = some r) :
    Calls Try.prog 7 #[.agg #[.int .i64 a0_0, .int .i64 a0_1, .slice A0_2 l0_2.length c0_2], .slice A1 l1.length c1, .slice A2 l2.length c2] w fun e w' => e = .returned (.bool r) ∧ Below w.heap.size w w' := by
  obtain rfl := Option.some.inj h
  exact fms_all a0_0 a0_1 A0_2 c0_2 l0_2 A1 c1 l1 A2 c2 l2 w hr0_2 hc0_2 hr1 hc1 hr2 hc2
end Go.Proofs.Ytbhcchhhpmlpmaa.Pfms

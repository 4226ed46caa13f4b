/- The law MarkNamed: the way that ends at once, and the join. -/
import Derived.Test.YtbhcchhhpmlpmaaHNmd
import Derived.Test.YtbhcchhhpmlpmaaHRefK
import Derived.Test.YtbhcchhhpmlpmaaHLaws
namespace Go.Proofs.Ytbhcchhhpmlpmaa.Pnam
set_option linter.unusedVariables false
set_option linter.unusedSimpArgs false
open Go.RowKit Go.Maps Go.Proofs.Ytbhcchhhpmlpmaa.Hand Go.Proofs.YtbhcchhhpmlpmaaW.PrintWords Go.Proofs.YtbhcchhhpmlpmaaW.PrintLast Go.Proofs.YtbhcchhhpmlpmaaW.PrintMore Go.Proofs.Ytbhcchhhpmlpmaa.PrA Go.Proofs.Ytbhcchhhpmlpmaa.PrC Go.Proofs.Ytbhcchhhpmlpmaa.PrR Go.Proofs.Ytbhcchhhpmlpmaa.PrF

set_option maxHeartbeats 4000000 in
set_option maxRecDepth 100000 in
theorem nmd_bad (a0 a1 : Int) (A : Option Addr) (c : Nat) (l : List Int) (worn owner : Int) (As : Option Addr) (cs n : Nat) (w : World) (hr : Kd.C (Kd.int .i64) w A l.length l) (hc : l.length ≤ c) (ho : ¬ (officeN a0 a1 l = 0 ∧ a0 ≤ 8 ∧ n ≤ 20)) :
    Calls Try.prog 15 #[.agg #[.int .i64 a0, .int .i64 a1, .slice A l.length c], .int .u16 worn, .int .u8 owner, .slice As n cs] w
      fun e w' => e = .returned (.bool true) ∧ Below w.heap.size w w' := by
  have hu := Try.underlying24
  obtain ⟨W, hW⟩ : ∃ W, W = w.alloc (.cells #[.int .i64 a0, .int .i64 a1, .slice A l.length c] 24) := ⟨_, rfl⟩
  have hbl : Below w.heap.size w W := by rw [hW]; exact (Below.refl w.heap.size w).alloc (Nat.le_refl _) _
  have HX := Lib.hid (show OffAt2 W w.heap.size a0 a1 A c l from ⟨by rw [hW]; refine ⟨?_, ?_, ?_⟩ <;> simp [go_sem], Kd.C_below hr hbl⟩)
  have HB := Lib.hid hbl
  have q0 := HX.out.1.1
  have q1 := HX.out.1.2.1
  have q2 := HX.out.1.2.2
  rw [hW] at q0 q1 q2
  by_cases h0 : officeN a0 a1 l = 0
  · have hF := fine_is a0 a1 l (Nat.le_refl 20)
    rw [decide_eq_true h0] at hF
    have HF := Lib.hid hF
    have HO := Lib.hid (And.intro ho h0)
    clear hbl hr ho hF h0
    by_cases h8 : 8 < a0
    · go_enter Try.func15, Try.ntmps15
      go_wp2_with fail
      rw [← hW]
      clear hW q0 q1 q2
      refine (peaveylaw01_fine.calls 20 a0 a1 A c l true W HX.out.2 hc HF.out).mono ?_
      rintro e w1 ⟨rfl, hw⟩
      have HB1 := Lib.hid (HB.out.trans (hw.mono HB.out.size))
      have HX1 := Lib.hid (off2_below HX.out hw)
      have q0 := HX1.out.1.1
      have q1 := HX1.out.1.2.1
      have q2 := HX1.out.1.2.2
      clear hw HX HB HF HX1
      go_wp2_with fail
      clear q0 q1 q2
      refine (works_true w1).mono ?_
      rintro e w2 ⟨rfl, hw⟩
      have HB2 := Lib.hid (HB1.out.trans (hw.mono HB1.out.size))
      clear hw
      go_wp2
      go_ret
      exact ⟨rfl, HB2.out⟩
    · have h20 : 20 < (n : Int) := by
        rcases Nat.lt_or_ge 20 n with h | h
        · omega
        · exact absurd ⟨HO.out.2, by omega, h⟩ HO.out.1
      go_enter Try.func15, Try.ntmps15
      go_wp2_with fail
      rw [← hW]
      clear hW q0 q1 q2
      refine (peaveylaw01_fine.calls 20 a0 a1 A c l true W HX.out.2 hc HF.out).mono ?_
      rintro e w1 ⟨rfl, hw⟩
      have HB1 := Lib.hid (HB.out.trans (hw.mono HB.out.size))
      have HX1 := Lib.hid (off2_below HX.out hw)
      have q0 := HX1.out.1.1
      have q1 := HX1.out.1.2.1
      have q2 := HX1.out.1.2.2
      clear hw HX HB HF HX1
      go_wp2_with fail
      clear q0 q1 q2
      refine (works_true w1).mono ?_
      rintro e w2 ⟨rfl, hw⟩
      have HB2 := Lib.hid (HB1.out.trans (hw.mono HB1.out.size))
      clear hw
      go_wp2
      go_ret
      exact ⟨rfl, HB2.out⟩
  · have hF := fine_is a0 a1 l (Nat.le_refl 20)
    rw [decide_eq_false h0] at hF
    have HF := Lib.hid hF
    clear hbl hr ho hF h0
    go_enter Try.func15, Try.ntmps15
    go_wp2_with fail
    rw [← hW]
    clear hW q0 q1 q2
    refine (peaveylaw01_fine.calls 20 a0 a1 A c l false W HX.out.2 hc HF.out).mono ?_
    rintro e w1 ⟨rfl, hw⟩
    have HB1 := Lib.hid (HB.out.trans (hw.mono HB.out.size))
    clear hw HX HB HF
    go_wp2_with fail
    refine (works_true w1).mono ?_
    rintro e w2 ⟨rfl, hw⟩
    have HB2 := Lib.hid (HB1.out.trans (hw.mono HB1.out.size))
    clear hw
    go_wp2
    go_ret
    exact ⟨rfl, HB2.out⟩

theorem told_val {a0 a1 : Int} {l : List Int} (ho : officeN a0 a1 l = 0) {i : Nat} (hi : i < l.length) : mark_Told.f a0 a1 l (i : Int) = some (toldTo a1 l (i : Int) l.length, 0) := by
  unfold mark_Told.f
  rw [if_neg (fun h => h ho), show outB 0 ((l.length : Int) - 1) (i : Int) = false by simp [outB]; omega]; rfl
theorem keep_val {a0 a1 : Int} {l : List Int} (ho : officeN a0 a1 l = 0) {i : Nat} (hi : i < l.length) : mark_Keep.f a0 a1 l (i : Int) = some (match keepN l i with | some s => ((s : Int), 0) | none => (0, 17)) := by
  unfold mark_Keep.f
  rw [if_neg (fun h => h ho), show outB 0 ((l.length : Int) - 1) (i : Int) = false by simp [outB]; omega, if_neg (by simp), keepV_is ho i hi]; rfl
theorem free_val {a0 b : Int} {l : List Int} (hb : officeN a0 b l = 0) : mark_Free.f a0 b l = some (freeTo b l (allN a0).toNat, 0) := by
  unfold mark_Free.f
  rw [if_neg (fun h => h hb)]
def peaveylaw01_MarkNamed.f (_ _ : Int) (_ : List Int) (a1 a2 : Int) (l3 : List Int) : Option Bool := if (0 ≤ a1 ∧ a1 ≤ 65535) ∧ (0 ≤ a2 ∧ a2 ≤ 255) ∧ ∀ x ∈ l3, 0 ≤ x ∧ x ≤ 255 then some true else none
theorem peaveylaw01_MarkNamed.calls (a0_0 : Int) (a0_1 : Int) (A0_2 : Option Addr) (c0_2 : Nat) (l0_2 : List Int) (a1 a2 : Int) (A3 : Option Addr) (c3 : Nat) (l3 : List Int) (r : Bool) (w : World) (hr0_2 : Kd.C (Kd.int .i64) w A0_2 l0_2.length l0_2) (hc0_2 : l0_2.length ≤ c0_2)
    (hr3 : Kd.C (Kd.int .u8) w A3 l3.length l3) (hc3 : l3.length ≤ c3) (h : peaveylaw01_MarkNamed.f a0_0 a0_1 l0_2 a1 a2 l3 = some r) :
    Calls Try.prog 15 #[.agg #[.int .i64 a0_0, .int .i64 a0_1, .slice A0_2 l0_2.length c0_2], .int .u16 a1, .int .u8 a2, .slice A3 l3.length c3] w fun e w' => e = .returned (.bool r) ∧ Below w.heap.size w w' := by
  unfold peaveylaw01_MarkNamed.f at h
  split at h
  · rename_i hb
    obtain rfl := Option.some.inj h
    by_cases ho : officeN a0_0 a0_1 l0_2 = 0 ∧ a0_0 ≤ 8 ∧ l3.length ≤ 20
    · obtain ⟨ho, h8, h20⟩ := ho
      have hz := office_zero ho
      have hal := allN_lt hz.2.1
      have hap := allN_pos hz.1
      obtain ⟨s, hs⟩ := Int.eq_ofNat_of_zero_le (show 0 ≤ a0_0 by omega)
      have hsn : a0_0.toNat = s := by omega
      obtain ⟨nm, hnm⟩ : ∃ nm, nm = swN s l3 l3.length := ⟨_, rfl⟩
      have hok : NamOk s nm := by rw [hnm]; exact swN_ok (by omega) (by omega) l3 _
      obtain ⟨g, hren⟩ := hok.ren
      obtain ⟨wn, hwn, hwl⟩ := tmod_nat (a := a1) (n := allN a0_0 + 1) hb.1.1 hb.1.2 (by omega)
      rw [w64 (by omega)] at hwn
      obtain ⟨L2, hL2⟩ : ∃ L2, L2 = namL s nm l0_2 l0_2.length := ⟨_, rfl⟩
      have hR : RenL a0_0 a0_1 (mk nm) g l0_2 L2 := nam_office ho (by rw [hsn]; exact hren) (by rw [hL2, namL_length]) (fun i hi => by rw [hL2, namL_at s nm l0_2 _ i hi, hsn])
      have hlow : Low a0_0.toNat wn := low_lt (by have := @all_nat a0_0; omega)
      have hnl := lt_low (nam_low hR.ren wn)
      have ha2 := @all_nat a0_0
      have hown : ownN a0_1 L2 (namTo (mk nm) wn s) L2.length = ownN a0_1 l0_2 wn l0_2.length := by rw [← hsn, hR.len]; exact nam_own hR hlow _ (Nat.le_refl _)
      have lo : (ownN a0_1 l0_2 wn l0_2.length).length ≤ 10000 := by
        rw [ownN_filter, List.length_map]
        have := List.length_filter_le (fun i => canBe wn (mk l0_2 i) a0_1) (List.range l0_2.length)
        rw [List.length_range] at this
        have := hz.2.2.2.2.1
        omega
      refine nmd_good a0_0 a0_1 A0_2 c0_2 l0_2 a1 a2 A3 c3 l3 w hr0_2 hc0_2 hr3 hc3 h20 hb.2.2 ho h8 s hs nm hnm wn hwn (by omega) hb.1 hb.2.1 (ownN a0_1 l0_2 wn l0_2.length) (freeTo a0_1 l0_2 (allN a0_0).toNat) (freeTo a0_1 L2 (allN a0_0).toNat) (marOut a0_0 l0_2 l0_2.length)
        (owners_val ho wn (by omega)) ?_ (free_val ho) (by rw [← hL2]; exact free_val hR.ho') (nam_free hR) (margin_val ho) (by rw [← hL2, margin_val hR.ho', nam_margin hR]) (l0_2.length + 12 + 10001) ?_ ?_
      · rw [← hL2, owners_val hR.ho' _ (by rw [← hsn]; omega), hown]
      · rw [ints_is _ _ lo (by omega)]; simp
      · intro hl0
        obtain ⟨i, hi, hil⟩ := tmod_nat (a := a2) (n := (l0_2.length : Int)) hb.2.1.1 (by omega) (by omega)
        rw [w64 (by omega)] at hi
        have hil' : i < l0_2.length := by omega
        have hil2 : i < L2.length := by rw [hR.len]; exact hil'
        rw [← hL2]
        have ht := nam_told hR hil'
        have pcl : ∀ {l : List Int} {u : Nat}, officeN a0_0 a0_1 l = 0 → i < l.length → keepN l i = some u → u < 1024 := fun ho hi hk => by
          have h1 := (keepN_some ho hi hk).2.1
          have h2 := mk_lt ho hi
          omega
        rcases nam_keep hR hil' with ⟨k1, k2⟩ | ⟨u, v, k1, k2, k3⟩
        · exact ⟨i, toldTo a0_1 l0_2 (i : Int) l0_2.length, 0, 0, 17, (pc 0 : Int), hi, told_val ho hil', by rw [told_val hR.ho' hil2, ht], by rw [keep_val ho hil', k1], by rw [keep_val hR.ho' hil2, k2], .inr rfl,
            refSize_is 0 (by omega) (by omega), refSize_is 0 (by omega) (by omega)⟩
        · exact ⟨i, toldTo a0_1 l0_2 (i : Int) l0_2.length, (u : Int), (v : Int), 0, (pc u : Int), hi, told_val ho hil', by rw [told_val hR.ho' hil2, ht], by rw [keep_val ho hil', k1], by rw [keep_val hR.ho' hil2, k2], .inl rfl,
            refSize_is u (pcl ho hil' k1) (by omega), by rw [refSize_is v (pcl hR.ho' hil2 k2) (by omega), k3]⟩
    · exact nmd_bad a0_0 a0_1 A0_2 c0_2 l0_2 a1 a2 A3 c3 l3.length w hr0_2 hc0_2 ho
  · cases h
end Go.Proofs.Ytbhcchhhpmlpmaa.Pnam

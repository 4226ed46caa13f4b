/- The reference's CheckFamily comes to a plain value (in the printed form). -/
import Derived.Test.YtbhcchhhpmlpmaaHRefG
import Derived.Test.YtbhcchhhpmlpmaaMC
import Derived.Test.YtbhcchhhpmlpmaaHList
namespace Go.Proofs.Ytbhcchhhpmlpmaa.PrW
set_option linter.unusedVariables false
set_option linter.unusedSimpArgs false
open Go.RowKit Go.Maps Go.Proofs.Ytbhcchhhpmlpmaa.Hand Go.Proofs.YtbhcchhhpmlpmaaW.PrintWords Go.Proofs.YtbhcchhhpmlpmaaW.PrintLast Go.Proofs.YtbhcchhhpmlpmaaW.PrintMore Go.Proofs.Ytbhcchhhpmlpmaa.PrA Go.Proofs.Ytbhcchhhpmlpmaa.PrR Go.Proofs.Ytbhcchhhpmlpmaa.PrT Go.Proofs.Ytbhcchhhpmlpmaa.PrV

theorem incr_short {n : Nat} {l : List Int} (h : okFrom (n : Int) 0 l = true) : l.length ≤ n := by
  have key : ∀ (l : List Int) (nx : Int), 0 ≤ nx → okFrom (n : Int) nx l = true → (l.length : Int) ≤ max 0 ((n : Int) - nx) := by
    intro l
    induction l with
    | nil => intro nx _ _; simp; omega
    | cons x l ih =>
      intro nx h0 h
      rw [okFrom, Bool.and_eq_true] at h
      obtain ⟨h1, h2⟩ := h
      simp [outB] at h1
      have := ih (x + 1) (by omega) h2
      rw [List.length_cons]
      omega
  have := key l 0 (Int.le_refl 0) h
  omega
theorem picked_marks {marks fam : List Int} (hm : Marks marks) (hf : ∀ x ∈ fam, 0 ≤ x ∧ x < (marks.length : Int)) : Marks (fam.map (rd marks)) := by
  intro i hi
  rw [List.length_map] at hi
  have hx := hf fam[i] (List.getElem_mem hi)
  obtain ⟨j, hj⟩ := Int.eq_ofNat_of_zero_le hx.1
  have e : rd (fam.map (rd marks)) (i : Int) = rd marks (j : Int) := by
    rw [rd_nth (l := fam.map (rd marks)) (by rw [List.length_map]; exact hi), List.getElem_map, hj]
  have h2 := hm j (by omega)
  rw [e, h2.1]
  have : mk (fam.map (rd marks)) i = mk marks j := by unfold mk; rw [e]
  rw [this]
  exact ⟨rfl, h2.2⟩

set_option maxHeartbeats 4000000 in
set_option maxRecDepth 100000 in
theorem refFam_bad (a0 a1 : Int) (A : Option Addr) (c : Nat) (l : List Int) (Am : Option Addr) (cm : Nat) (marks : List Int) (Af : Option Addr) (cf : Nat) (fam : List Int) (w : World) (hr : Kd.C (Kd.int .i64) w A l.length l) (hc : l.length ≤ c)
    (hmr : Kd.C (Kd.int .i64) w Am marks.length marks) (hmc : marks.length ≤ cm) (hfr : Kd.C (Kd.int .i64) w Af fam.length fam) (hfc : fam.length ≤ cf) (h0 : askedN a0 a1 l marks ≠ 0) :
    Calls Try.prog 40 #[.agg #[.int .i64 a0, .int .i64 a1, .slice A l.length c], .slice Am marks.length cm, .slice Af fam.length cf] w
      fun e w' => e = .returned (.int .i64 (askedN a0 a1 l marks)) ∧ Below w.heap.size w w' := by
  have hu := Try.underlying24
  obtain ⟨W, hW⟩ : ∃ W, W = w.alloc (.cells #[.int .i64 a0, .int .i64 a1, .slice A l.length c] 24) := ⟨_, rfl⟩
  have hbl : Below w.heap.size w W := by rw [hW]; exact (Below.refl w.heap.size w).alloc (Nat.le_refl _) _
  have hB : RegAt W w.heap.size a0 a1 A c l := by rw [hW]; refine ⟨?_, ?_, ?_⟩ <;> simp [go_sem]
  have HB := Lib.hid hB
  have HBL := Lib.hid hbl
  have HA := Lib.hid (fun (V : World) (hb : Below w.heap.size w V) => peaveyref01_Asked.calls 20 a0 a1 A c l Am cm marks (askedN a0 a1 l marks) V (Kd.C_below hr hb) hc (Kd.C_below hmr hb) hmc (refAsked_is a0 a1 l marks (Nat.le_refl 20)))
  obtain ⟨q0, q1, q2⟩ := hB
  rw [hW] at q0 q1 q2
  obtain ⟨E, hE⟩ : ∃ E, E = askedN a0 a1 l marks := ⟨_, rfl⟩
  rw [← hE] at h0 HA ⊢
  have hd2 : (E != 0) = true := bne_iff_ne.2 h0
  clear hbl hr hmr hfr hE
  go_enter Try.func40, Try.ntmps40
  go_wp2_with fail
  rw [← hW]
  clear hW q0 q1 q2
  refine (HA.out W HBL.out).mono ?_
  rintro e w1 ⟨rfl, hw⟩
  have HW1 := Lib.hid (HBL.out.trans (hw.mono HBL.out.size))
  obtain ⟨q0, q1, q2⟩ := reg_below HB.out hw (cell_size HB.out.1)
  clear hw
  go_wp2_with fail
  clear q0 q1 q2
  refine (HA.out w1 HW1.out).mono ?_
  rintro e w2 ⟨rfl, hw⟩
  have HW2 := Lib.hid (HW1.out.trans (hw.mono HW1.out.size))
  clear hw
  go_wp2
  go_ret
  exact ⟨rfl, HW2.out⟩

set_option maxHeartbeats 8000000 in
set_option maxRecDepth 100000 in
theorem refFam_good (a0 a1 : Int) (A : Option Addr) (c : Nat) (l : List Int) (Am : Option Addr) (cm : Nat) (marks : List Int) (Af : Option Addr) (cf : Nat) (fam : List Int) (w : World) (hr : Kd.C (Kd.int .i64) w A l.length l) (hc : l.length ≤ c)
    (hmr : Kd.C (Kd.int .i64) w Am marks.length marks) (hmc : marks.length ≤ cm) (hfr : Kd.C (Kd.int .i64) w Af fam.length fam) (hfc : fam.length ≤ cf) (h0 : askedN a0 a1 l marks = 0) :
    Calls Try.prog 40 #[.agg #[.int .i64 a0, .int .i64 a1, .slice A l.length c], .slice Am marks.length cm, .slice Af fam.length cf] w
      fun e w' => e = .returned (.int .i64 (if okFrom marks.length 0 fam then (if famJoin a1 l marks fam fam.length then 0 else 17) else 16)) ∧ Below w.heap.size w w' := by
  have hu := Try.underlying24
  have hm63 : fam.length ≤ 9223372036854775807 := hfr.2.1
  obtain ⟨W, hW⟩ : ∃ W, W = w.alloc (.cells #[.int .i64 a0, .int .i64 a1, .slice A l.length c] 24) := ⟨_, rfl⟩
  have hbl : Below w.heap.size w W := by rw [hW]; exact (Below.refl w.heap.size w).alloc (Nat.le_refl _) _
  have hB : RegAt W w.heap.size a0 a1 A c l := by rw [hW]; refine ⟨?_, ?_, ?_⟩ <;> simp [go_sem]
  have HB := Lib.hid hB
  have HBL := Lib.hid hbl
  have HA := Lib.hid (peaveyref01_Asked.calls 20 a0 a1 A c l Am cm marks 0 W (Kd.C_below hr hbl) hc (Kd.C_below hmr hbl) hmc (by rw [refAsked_is a0 a1 l marks (Nat.le_refl 20), h0]))
  have HR := Lib.hid hr
  have HM := Lib.hid hmr
  have HF := Lib.hid hfr
  have hm12 : marks.length ≤ 12 := (asked_zero h0).2.1
  have HAM := Lib.hid (asked_marks h0)
  have HJI := Lib.hid (fun hf => famJoin_iff (fam := fam) h0 hf)
  have HOS := Lib.hid (okFrom_steps marks.length fam)
  obtain ⟨R, hR⟩ : ∃ R : Int, R = (if okFrom marks.length 0 fam then (if famJoin a1 l marks fam fam.length then 0 else 17) else 16) := ⟨_, rfl⟩
  rw [← hR]
  have HRR := Lib.hid hR
  obtain ⟨q0, q1, q2⟩ := hB
  rw [hW] at q0 q1 q2
  clear hbl hr hmr hfr h0 hR
  go_enter Try.func40, Try.ntmps40
  go_wp2_with fail
  rw [← hW]
  clear hW q0 q1 q2
  refine (HA.out).mono ?_
  rintro e w1 ⟨rfl, hw⟩
  have HW1 := Lib.hid (HBL.out.trans (hw.mono HBL.out.size))
  have HB1 := Lib.hid (reg_below HB.out hw (cell_size HB.out.1))
  clear hw HA HB HBL
  go_wp2_with fail
  go_loopw [7] (fun i wr => ∃ (k : Nat), k ≤ fam.length ∧ i = .int .i64 k ∧ Hid (∀ j, j < k → stepOk marks.length fam j = true) ∧ Hid (Below w1.heap.size w1 wr)) (fun i _ => fam.length - (intOf i).toNat)
  case atStart => exact ⟨0, Nat.zero_le _, rfl, Lib.hid (fun j hj => by omega), Lib.hid (Below.refl _ _)⟩
  case round =>
    obtain ⟨k, hk, rfl, HOK, HI⟩ := hrel
    by_cases hlt : k < fam.length
    · have hlt' : (k : Int) < (fam.length : Int) := by omega
      have p0 : (0 : Int) ≤ (k : Int) := by omega
      have hbb := HW1.out.trans (HI.out.mono HW1.out.size)
      obtain ⟨ad, rfl, hx⟩ := Kd.at_int (Kd.C_below HF.out hbb) (k : Int) p0 hlt'
      rw [Int.toNat_natCast] at hx
      obtain ⟨x, hxx⟩ : ∃ x, x = rd fam (k : Int) := ⟨_, rfl⟩
      rw [← hxx] at hx
      have HBB := Lib.hid hbb
      have HXX := Lib.hid hxx
      have k1 := kept_cell' hx
      have hwr : IntKind.i64.wrap ((k : Int) - 1) = (k : Int) - 1 := IntWalk.i64_in _ (by omega)
      have hst : stepOk marks.length fam k = (!outB 0 ((marks.length : Int) - 1) x && (decide (k = 0) || decide (rd fam ((k : Int) - 1) < x))) := by rw [stepOk, ← hxx]
      have HST := Lib.hid hst
      clear hst hxx hbb hx
      by_cases hx0 : x < 0
      · have g28 : decide (x < 0) = true := decide_eq_true hx0
        have HX0 := Lib.hid hx0
        clear hx0
        have hbad : stepOk marks.length fam k = false := by rw [HST.out, show outB 0 ((marks.length : Int) - 1) x = true by have := HX0.out; simp [outB]; omega]; rfl
        have HBAD := Lib.hid hbad
        clear hbad
        go_wp2_with fail
        refine wp_region_kept wr.heap.size wr (by kernel_rfl) (by kernel_rfl) (Below.refl _ _) ?_
        repeat (go_big_quiet_step (fail))
        refine wpQuiet_nil ?_
        rintro _ ⟨X, rfl⟩
        have HI2 := Lib.hid (HI.out.trans (X.2.mono HI.out.size))
        go_wp2
        go_ret
        exact ⟨(by rw [HRR.out, if_neg (fun h => by have := HOS.out.1 h k hlt; rw [HBAD.out] at this; cases this)]; first | done | rfl), HW1.out.trans (HI2.out.mono HW1.out.size)⟩
      · have g28 : decide (x < 0) = false := decide_eq_false hx0
        by_cases hx1 : (marks.length : Int) ≤ x
        · have g36 : decide ((marks.length : Int) ≤ x) = true := decide_eq_true hx1
          have HX1 := Lib.hid hx1
          clear hx0 hx1
          have hbad : stepOk marks.length fam k = false := by rw [HST.out, show outB 0 ((marks.length : Int) - 1) x = true by have := HX1.out; simp [outB]; omega]; rfl
          have HBAD := Lib.hid hbad
          clear hbad
          go_wp2_with fail
          refine wp_region_kept wr.heap.size wr (by kernel_rfl) (by kernel_rfl) (Below.refl _ _) ?_
          repeat (go_big_quiet_step (fail))
          refine wpQuiet_nil ?_
          rintro _ ⟨X, rfl⟩
          have HI2 := Lib.hid (HI.out.trans (X.2.mono HI.out.size))
          go_wp2
          go_ret
          exact ⟨(by rw [HRR.out, if_neg (fun h => by have := HOS.out.1 h k hlt; rw [HBAD.out] at this; cases this)]; first | done | rfl), HW1.out.trans (HI2.out.mono HW1.out.size)⟩
        · have g36 : decide ((marks.length : Int) ≤ x) = false := decide_eq_false hx1
          have HIN : Hid (outB 0 ((marks.length : Int) - 1) x = false) := Lib.hid (by simp [outB]; omega)
          clear hx0 hx1
          by_cases hk0 : k = 0
          · have g40 : decide (0 < k) = false := decide_eq_false (by omega)
            have HK0 := Lib.hid hk0
            clear hk0
            have hgood : stepOk marks.length fam k = true := by rw [HST.out, HIN.out, decide_eq_true HK0.out]; rfl
            have HGOOD := Lib.hid hgood
            clear hgood
            go_wp2_with fail
            refine wp_region_kept wr.heap.size wr (by kernel_rfl) (by kernel_rfl) (Below.refl _ _) ?_
            repeat (go_big_quiet_step (fail))
            refine wpQuiet_nil ?_
            rintro _ ⟨X, rfl⟩
            have HI2 := Lib.hid (HI.out.trans (X.2.mono HI.out.size))
            go_wp2
            go_roundw
            case rel => exact ⟨k + 1, by omega, by go_num, Lib.hid (fun j hj => by
              by_cases e : j = k
              · rw [e]; exact HGOOD.out
              · exact HOK.out j (by omega)), HI2⟩
            case measure => simp [intOf]; omega
          · have g40 : decide (0 < k) = true := decide_eq_true (by omega)
            have p1 : (0 : Int) ≤ (k : Int) - 1 := by omega
            have p2 : (k : Int) - 1 < (fam.length : Int) := by omega
            obtain ⟨ad', e', hy⟩ := Kd.at_int (Kd.C_below HF.out HBB.out) ((k : Int) - 1) p1 p2
            cases e'
            obtain ⟨y, hyy⟩ : ∃ y, y = rd fam ((k : Int) - 1) := ⟨_, rfl⟩
            have hst2 := HST.out
            rw [← hyy] at hy hst2
            have HST2 := Lib.hid hst2
            have k2 := kept_cell' hy
            rw [show ((k : Int) - 1).toNat = k - 1 by omega] at hy
            have k3 := kept_cell' hy
            have HK0 := Lib.hid hk0
            clear hk0 hyy hst2 hy
            by_cases hle : x ≤ y
            · have g51 : decide (x ≤ y) = true := decide_eq_true hle
              have HLE := Lib.hid hle
              clear hle
              have hbad : stepOk marks.length fam k = false := by rw [HST2.out, HIN.out, decide_eq_false HK0.out, decide_eq_false (by have := HLE.out; omega)]; rfl
              have HBAD := Lib.hid hbad
              clear hbad
              go_wp2_with fail
              refine wp_region_kept wr.heap.size wr (by kernel_rfl) (by kernel_rfl) (Below.refl _ _) ?_
              repeat (go_big_quiet_step (fail))
              refine wpQuiet_nil ?_
              rintro _ ⟨X, rfl⟩
              have HI2 := Lib.hid (HI.out.trans (X.2.mono HI.out.size))
              go_wp2
              go_ret
              exact ⟨(by rw [HRR.out, if_neg (fun h => by have := HOS.out.1 h k hlt; rw [HBAD.out] at this; cases this)]; first | done | rfl), HW1.out.trans (HI2.out.mono HW1.out.size)⟩
            · have g51 : decide (x ≤ y) = false := decide_eq_false hle
              have HLE := Lib.hid hle
              clear hle
              have hgood : stepOk marks.length fam k = true := by rw [HST2.out, HIN.out, decide_eq_false HK0.out, decide_eq_true (by have := HLE.out; omega)]; rfl
              have HGOOD := Lib.hid hgood
              clear hgood
              go_wp2_with fail
              refine wp_region_kept wr.heap.size wr (by kernel_rfl) (by kernel_rfl) (Below.refl _ _) ?_
              repeat (go_big_quiet_step (fail))
              refine wpQuiet_nil ?_
              rintro _ ⟨X, rfl⟩
              have HI2 := Lib.hid (HI.out.trans (X.2.mono HI.out.size))
              go_wp2
              go_roundw
              case rel => exact ⟨k + 1, by omega, by go_num, Lib.hid (fun j hj => by
                by_cases e : j = k
                · rw [e]; exact HGOOD.out
                · exact HOK.out j (by omega)), HI2⟩
              case measure => simp [intOf]; omega
    · have hnl : ¬ ((k : Int) < (fam.length : Int)) := by omega
      have hok : okFrom marks.length 0 fam = true := HOS.out.2 fun j hj => HOK.out j (by omega)
      have HOK2 := Lib.hid hok
      have hall := okFrom_mem marks.length fam 0 hok
      have HALL : Hid (∀ x ∈ fam, 0 ≤ x ∧ x < (marks.length : Int)) := Lib.hid (fun x hx => by have := hall x hx; omega)
      have hji := HJI.out HALL.out
      have HJ2 := Lib.hid hji
      have HW2 := Lib.hid (HW1.out.trans (HI.out.mono HW1.out.size))
      have HB2 := Lib.hid (reg_below HB1.out HI.out (cell_size HB1.out.1))
      clear hok hall hji HJI HOS HOK HI HB1
      obtain ⟨wo, rfl⟩ : ∃ wo : World, wo = wr := ⟨_, rfl⟩
      go_wp2_with fail
      go_loopw [8] (fun i wr => ∃ (j : Nat), j ≤ fam.length ∧ i = .int .i64 j ∧ Hid (∀ t, t < j → freeN l a1 (mk marks (rd fam (t : Int)).toNat) = true) ∧ Hid (Below wo.heap.size wo wr)) (fun i _ => fam.length - (intOf i).toNat)
      case atStart => exact ⟨0, Nat.zero_le _, rfl, Lib.hid (fun j hj => by omega), Lib.hid (Below.refl _ _)⟩
      case round =>
        obtain ⟨j, hj, rfl, HFR, HI⟩ := hrel
        by_cases hlt : j < fam.length
        · have hlt' : (j : Int) < (fam.length : Int) := by omega
          have p0 : (0 : Int) ≤ (j : Int) := by omega
          have hbb := HW2.out.trans (HI.out.mono HW2.out.size)
          obtain ⟨ad, rfl, hx⟩ := Kd.at_int (Kd.C_below HF.out hbb) (j : Int) p0 hlt'
          rw [Int.toNat_natCast] at hx
          have hin := HALL.out fam[j] (List.getElem_mem hlt)
          rw [← rd_nth hlt] at hin
          obtain ⟨x, hxx⟩ : ∃ x, x = rd fam (j : Int) := ⟨_, rfl⟩
          rw [← hxx] at hx hin
          obtain ⟨x, rfl⟩ := Int.eq_ofNat_of_zero_le hin.1
          have i0 := hin.1
          have i1 := hin.2
          obtain ⟨am, rfl, hy⟩ := Kd.at_int (Kd.C_below HM.out hbb) (x : Int) hin.1 hin.2
          rw [Int.toNat_natCast] at hy
          have hmx := (HAM.out.2.2.1 x (by omega)).1
          have hm1 := HAM.out.2.2.2 x (by omega)
          rw [hmx] at hy
          have hxj : (rd fam (j : Int)).toNat = x := by rw [← hxx]; simp
          have HXJ := Lib.hid hxj
          obtain ⟨b0, b1, b2⟩ := reg_below HB2.out HI.out (cell_size HB2.out.1)
          have k0 := kept_cell' b0
          have k1 := kept_cell' b1
          have k2 := kept_cell' b2
          have k3 := kept_cell' hx
          have k4 := kept_cell' hy
          obtain ⟨v, hv⟩ : ∃ v, v = freeN l a1 (mk marks x) := ⟨_, rfl⟩
          have hcall := refIsFree_is HAM.out.1 hm1.1 hm1.2 (Nat.le_refl 1200)
          rw [← hv] at hcall
          have HIF := Lib.hid (fun y : Kw wr.heap.size wr => peaveyref01_IsFree.calls 1200 a0 a1 A c l (mk marks x : Int) v y.1 (Kd.C_below HR.out (hbb.trans (y.2.mono hbb.size))) hc hcall)
          have HV := Lib.hid hv
          clear hbb hxx hmx hm1 hxj b0 b1 b2 hx hy hcall hv hin
          go_wp2_with fail
          refine wp_region_kept wr.heap.size wr (by kernel_rfl) (by kernel_rfl) (Below.refl _ _) ?_
          repeat (go_big_quiet_step (first | with_reducible exact kept_calls _ (Nat.le_refl _) (HIF.out _)))
          refine wpQuiet_nil ?_
          rintro _ ⟨X, rfl⟩
          have HI2 := Lib.hid (HI.out.trans (X.2.mono HI.out.size))
          clear k0 k1 k2 k3 k4 HIF
          cases v
          · go_wp2
            go_ret
            exact ⟨(by rw [HRR.out, if_pos HOK2.out, if_neg (fun h => by have := (HJ2.out.1 h).1 j hlt; rw [HXJ.out, ← HV.out] at this; cases this)]; first | done | rfl), HW2.out.trans (HI2.out.mono HW2.out.size)⟩
          · go_wp2
            go_roundw
            case rel => exact ⟨j + 1, by omega, by go_num, Lib.hid (fun t ht => by
              by_cases e : t = j
              · rw [e, HXJ.out, ← HV.out]
              · exact HFR.out t (by omega)), HI2⟩
            case measure => simp [intOf]; omega
        · have hnl : ¬ ((j : Int) < (fam.length : Int)) := by omega
          have HJ3 : Hid (famJoin a1 l marks fam fam.length = true ↔ pairN (fam.map (rd marks)) a1 = none) := Lib.hid ⟨fun h => (HJ2.out.1 h).2, fun h => HJ2.out.2 ⟨fun t ht => HFR.out t (by omega), h⟩⟩
          have HW3 := Lib.hid (HW2.out.trans (HI.out.mono HW2.out.size))
          have HB3 := Lib.hid (reg_below HB2.out HI.out (cell_size HB2.out.1))
          have hlen : fam.length ≤ 12 := Nat.le_trans (incr_short HOK2.out) hm12
          obtain ⟨pk, hpk⟩ : ∃ pk, pk = fam.map (rd marks) := ⟨_, rfl⟩
          have hpl : pk.length ≤ 40 := by rw [hpk, List.length_map]; omega
          have hjp := HJ3.out
          rw [← hpk] at hjp
          have HJ5 := Lib.hid hjp
          have hpv := refPicked_is marks fam HALL.out (k := 20) (by omega) (by omega)
          have hpm : Marks (fam.map (rd marks)) := picked_marks HAM.out.2.2.1 HALL.out
          rw [← hpk] at hpv hpm
          clear hpk hjp
          have HPK := Lib.hid (fun (V : World) (hb : Below w.heap.size w V) => peaveyref01_Picked.calls 20 Am cm marks Af cf fam pk V (Kd.C_below HM.out hb) hmc (Kd.C_below HF.out hb) hfc hpv)
          obtain ⟨u, hu1⟩ : ∃ u, u = pairI (pairN pk a1) := ⟨_, rfl⟩
          have hap : peaveyref01_AreApart.f 3200 pk a1 = some (u.1, u.2) := by rw [refApart_is _ a1 hpm hpl (Nat.le_refl _), hu1]
          obtain ⟨u1, u2⟩ := u
          have HAP := Lib.hid (fun (V : World) (B : Option Addr) (b : Nat) (hr : Kd.C (Kd.int .i64) V B pk.length pk) (hc : pk.length ≤ b) => peaveyref01_AreApart.calls 3200 B b pk a1 u1 u2 V hr hc hap)
          have hneg : u1 < 0 ↔ pairN pk a1 = none := by rw [← pairI_neg, ← hu1]
          have HNEG := Lib.hid hneg
          obtain ⟨b0, b1, b2⟩ := HB3.out
          have c1 := b1
          clear hap hu1 hneg hpm hpv hpl hlen b0 b2 b1 HJ2 HJ3 HFR HI
          go_wp2_with fail
          have hS : Below wr.heap.size wr wr.drew := (Below.refl _ _).drew
          refine wp_region_held_list (k := 11) rfl (fun w' => Below wr.heap.size wr w') (by kernel_rfl) ?_
          generalize wr.drew = wq at hS ⊢
          refine take_list (i := 0) (v := .slice Am marks.length cm) rfl (by kernel_rfl) (by kernel_rfl) (by kernel_rfl) (fun _ _ _ h => h) (by rfl) (by intro w' hw'; go_simp) hS ?_
          simp only [Act.put, List.setIfInBounds_toArray, List.set_cons_zero, List.set_cons_succ]
          refine take_list (i := 1) (v := .slice Af fam.length cf) rfl (by kernel_rfl) (by kernel_rfl) (by kernel_rfl) (fun _ _ _ h => h) (by rfl) (by intro w' hw'; go_simp) hS ?_
          simp only [Act.put, List.setIfInBounds_toArray, List.set_cons_zero, List.set_cons_succ]
          refine take_list (i := 3) (v := .pointer (some ⟨w.heap.size, 1, none⟩)) rfl (by kernel_rfl) (by kernel_rfl) (by kernel_rfl) (fun _ _ _ h => h) (by rfl) (by intro w' hw'; go_simp) hS ?_
          simp only [Act.put, List.setIfInBounds_toArray, List.set_cons_zero, List.set_cons_succ]
          refine take_list (i := 4) (v := .int .i64 a1) rfl (by kernel_rfl) (by kernel_rfl) (by kernel_rfl) (fun _ _ _ h => h) (by rfl) (by intro w' hw'; have q0 := held_now hw' c1; go_simp) hS ?_
          simp only [Act.put, List.setIfInBounds_toArray, List.set_cons_zero, List.set_cons_succ]
          refine step_list (i := 2) (by kernel_rfl) rfl (by rfl) (fun K hK => ?_)
          go_simp
          refine (HPK.out _ (HW3.out.trans (hS.mono HW3.out.size))).mono ?_
          rintro e w4 ⟨v, rfl, hrv, hb⟩
          obtain ⟨P4, p4, rfl, hp4, hC4⟩ := Kd.R_reads hrv
          have hS2 := hS.trans (hb.mono hS.size)
          refine hK _ _ hS2 ?_
          clear hK K hS hrv hb
          have hS := hS2
          clear hS2
          (try simp only [Act.put, List.setIfInBounds_toArray, List.set_cons_zero, List.set_cons_succ])
          refine step_list (i := 5) (by kernel_rfl) rfl (by rfl) (fun K hK => ?_)
          go_simp
          refine (HAP.out _ _ _ hC4 hp4).mono ?_
          rintro e w5 ⟨rfl, hb'⟩
          have hb := hb'.below
          have hS2 := hS.trans (hb.mono hS.size)
          refine hK _ _ hS2 ?_
          clear hK K hS hb hb' hC4 hp4
          have hS := hS2
          clear hS2
          (try simp only [Act.put, List.setIfInBounds_toArray, List.set_cons_zero, List.set_cons_succ])
          refine take_list (i := 6) (v := .tuple #[.int .i64 u1, .int .i64 u2]) rfl (by kernel_rfl) (by kernel_rfl) (by kernel_rfl) (fun _ _ _ h => h) (by rfl) (by intro w' hw'; go_simp) hS ?_
          simp only [Act.put, List.setIfInBounds_toArray, List.set_cons_zero, List.set_cons_succ]
          refine take_list (i := 7) (v := .int .i64 u1) rfl (by kernel_rfl) (by kernel_rfl) (by kernel_rfl) (fun _ _ _ h => h) (by rfl) (by intro w' hw'; go_simp) hS ?_
          simp only [Act.put, List.setIfInBounds_toArray, List.set_cons_zero, List.set_cons_succ]
          refine take_list (i := 8) (v := .int .i64 u2) rfl (by kernel_rfl) (by kernel_rfl) (by kernel_rfl) (fun _ _ _ h => h) (by rfl) (by intro w' hw'; go_simp) hS ?_
          simp only [Act.put, List.setIfInBounds_toArray, List.set_cons_zero, List.set_cons_succ]
          refine take_list (i := 9) (v := .int .i64 u1) rfl (by kernel_rfl) (by kernel_rfl) (by kernel_rfl) (fun _ _ _ h => h) (by rfl) (by intro w' hw'; go_simp) hS ?_
          simp only [Act.put, List.setIfInBounds_toArray, List.set_cons_zero, List.set_cons_succ]
          refine take_list (i := 10) (v := .int .i64 u2) rfl (by kernel_rfl) (by kernel_rfl) (by kernel_rfl) (fun _ _ _ h => h) (by rfl) (by intro w' hw'; go_simp) hS ?_
          simp only [Act.put, List.setIfInBounds_toArray, List.set_cons_zero, List.set_cons_succ]
          refine wpAnyH_done (by kernel_rfl) ?_ _
          have HW5 := Lib.hid (HW3.out.trans (hS.mono HW3.out.size))
          clear hS c1
          by_cases hneg : u1 < 0
          · have h2 : ¬ (0 ≤ u1) := by omega
            have HJ4 : Hid (famJoin a1 l marks fam fam.length = true) := Lib.hid (HJ5.out.2 (HNEG.out.1 hneg))
            go_wp2_with fail
            go_ret
            exact ⟨(by rw [HRR.out, if_pos HOK2.out, if_pos HJ4.out]; first | done | rfl), HW5.out⟩
          · have h2 : 0 ≤ u1 := by omega
            have HJ4 : Hid (¬ famJoin a1 l marks fam fam.length = true) := Lib.hid (fun h => hneg (HNEG.out.2 (HJ5.out.1 h)))
            go_wp2_with fail
            go_ret
            exact ⟨(by rw [HRR.out, if_pos HOK2.out, if_neg HJ4.out]; first | done | rfl), HW5.out⟩

/-- what the reference's CheckFamily comes to -/
def peaveyref01_CheckFamily.f (a0_0 a0_1 : Int) (l0_2 l1 l2 : List Int) : Option Int := some (famN a0_0 a0_1 l0_2 l1 l2)
theorem peaveyref01_CheckFamily.calls (a0_0 : Int) (a0_1 : Int) (A0_2 : Option Addr) (c0_2 : Nat) (l0_2 : List Int) (A1 : Option Addr) (c1 : Nat) (l1 : List Int) (A2 : Option Addr) (c2 : Nat) (l2 : List Int) (r : Int) (w : World) (hr0_2 : Kd.C (Kd.int .i64) w A0_2 l0_2.length l0_2) (hc0_2 : l0_2.length ≤ c0_2)
    (hr1 : Kd.C (Kd.int .i64) w A1 l1.length l1) (hc1 : l1.length ≤ c1) (hr2 : Kd.C (Kd.int .i64) w A2 l2.length l2) (hc2 : l2.length ≤ c2) (h : peaveyref01_CheckFamily.f a0_0 a0_1 l0_2 l1 l2 = some r) :
    Calls Try.prog 40 #[.agg #[.int .i64 a0_0, .int .i64 a0_1, .slice A0_2 l0_2.length c0_2], .slice A1 l1.length c1, .slice A2 l2.length c2] w fun e w' => e = .returned (.int .i64 r) ∧ Below w.heap.size w w' := by
  have h' := Option.some.inj h
  clear h
  rw [famN] at h'
  by_cases h0 : askedN a0_0 a0_1 l0_2 l1 = 0
  · rw [if_neg (fun h => h h0)] at h'
    subst h'
    exact refFam_good a0_0 a0_1 A0_2 c0_2 l0_2 A1 c1 l1 A2 c2 l2 w hr0_2 hc0_2 hr1 hc1 hr2 hc2 h0
  · rw [if_pos h0] at h'
    subst h'
    exact refFam_bad a0_0 a0_1 A0_2 c0_2 l0_2 A1 c1 l1 A2 c2 l2 w hr0_2 hc0_2 hr1 hc1 hr2 hc2 h0
end Go.Proofs.Ytbhcchhhpmlpmaa.PrW

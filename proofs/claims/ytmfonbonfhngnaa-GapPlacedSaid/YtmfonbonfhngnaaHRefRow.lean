/- The reference's CheckRow is the program's; its Place comes to the same. -/
import Derived.Test.YtmfonbonfhngnaaGD
import Derived.Test.YtmfonbonfhngnaaPrR1
namespace Go.Proofs.Ytmfonbonfhngnaa.Hand
set_option linter.unusedVariables false
set_option linter.unusedSimpArgs false
open Go.RowKit Go.Maps Go.Proofs.YtmfonbonfhngnaaW.PrintWords Go.Proofs.YtmfonbonfhngnaaW.PrintLast Go.Proofs.YtmfonbonfhngnaaW.PrintMore Go.Proofs.Ytmfonbonfhngnaa.PrR

theorem refRow_l (l : List Int) (hl : l.length ≤ 30) : ∀ (d j k : Nat), l.length - j = d → j ≤ l.length → d < k → peaveyref03_CheckRow.l0 k l (j : Int) = some (if (l.drop j).any (outB 1 1099511627776) then 3 else 0)
  | 0, j, k, hd, hj, hk => by
    obtain ⟨k, rfl⟩ : ∃ q, k = q + 1 := ⟨k - 1, by omega⟩
    rw [peaveyref03_CheckRow.l0, if_neg (by omega), List.drop_eq_nil_of_le (by omega)]
    rfl
  | d + 1, j, k, hd, hj, hk => by
    obtain ⟨k, rfl⟩ : ∃ q, k = q + 1 := ⟨k - 1, by omega⟩
    have hlt : j < l.length := by omega
    have ih := refRow_l l hl d (j + 1) k (by omega) (by omega) (by omega)
    rw [peaveyref03_CheckRow.l0, if_pos (by omega), if_pos (by omega), List.drop_eq_getElem_cons hlt, List.any_cons]
    have he : rd l (j : Int) = l[j] := by simp [rd, hlt]
    rw [he, IntWalk.wrap64_in _ ⟨by omega, by omega⟩, show ((j : Int) + 1) = ((j + 1 : Nat) : Int) by omega, ih]
    obtain ⟨x, hx⟩ : ∃ x, x = l[j] := ⟨_, rfl⟩
    rw [← hx]
    unfold outB
    by_cases h1 : x < 1
    · rw [if_pos h1]; simp [h1]
    · rw [if_neg h1]
      by_cases h2 : x > 1099511627776
      · rw [if_pos h2]; simp [h2]
      · rw [if_neg h2]; simp [h1, h2]
theorem refRow_is (l : List Int) (k : Nat) (hk : 31 ≤ k) : peaveyref03_CheckRow.f k l = some (rowE l) := by
  unfold peaveyref03_CheckRow.f rowE
  by_cases h : (l.length : Int) > 30
  · rw [if_pos h, if_pos h]
  · rw [if_neg h, if_neg h]
    have := refRow_l l (by omega) l.length 0 k (by omega) (by omega) (by omega)
    rw [List.drop_zero] at this
    rw [← this]; rfl
def peaveyref03_Place.f (k : Nat) (l0 : List Int) : Option (List Int × Int) := (peaveyref03_CheckRow.f k l0).bind fun e => if e ≠ 0 then some ([], e) else if l0.length ≤ 30 then some (plN l0 [] [], 0) else none
set_option maxHeartbeats 4000000 in
set_option maxRecDepth 100000 in
theorem peaveyref03_Place.calls (k : Nat) (A0 : Option Addr) (c0 : Nat) (l0 : List Int) (r1 : List Int) (r2 : Int) (w : World) (hr0 : Kd.C (Kd.int .i64) w A0 l0.length l0) (hc0 : l0.length ≤ c0) (h : peaveyref03_Place.f k l0 = some (r1, r2)) :
    Calls Try.prog 32 #[.slice A0 l0.length c0] w fun e w' => ∃ v0_ : Value, e = .returned (.tuple #[v0_, .int .i64 r2]) ∧ Kd.R (Kd.int .i64) 3 w' w.heap.size (fun _ => True) v0_ r1 ∧ Below w.heap.size w w' := by
  obtain ⟨E, hE, h⟩ := Option.bind_eq_some_iff.1 h
  have HC := Lib.hid (fun W (hb : Below w.heap.size w W) => peaveyref03_CheckRow.calls k A0 c0 l0 E W (Kd.C_below hr0 hb) hc0 hE)
  have HC0 := Lib.hid (HC.out w (Below.refl _ _))
  clear hE
  by_cases ho : E = 0
  · subst ho
    rw [if_neg (by simp)] at h
    have hl : l0.length ≤ 30 := by
      by_cases g : l0.length ≤ 30
      · exact g
      · rw [if_neg g] at h; cases h
    rw [if_pos hl] at h
    obtain ⟨rfl, rfl⟩ : plN l0 [] [] = r1 ∧ 0 = r2 := by simpa using h
    have HR := Lib.hid hr0
    have l30 : (l0.length : Int) ≤ 30 := by omega
    obtain ⟨res, hres⟩ : ∃ res, res = plN l0 [] [] := ⟨_, rfl⟩
    rw [← hres]
    have HRES := Lib.hid hres
    obtain ⟨i0, hi, hz0, hz1, hz2⟩ := info_parts infoInt
    obtain ⟨ii64, hj', hy0, hy1, hy2⟩ := info_parts info64
    clear hr0 h hres hl HC
    go_enter Try.func32, Try.ntmps32
    go_wp2_with fail
    refine HC0.out.mono ?_
    rintro e w1 ⟨rfl, hw1⟩
    have HW1 : Hid (Below w.heap.size w w1) := Lib.hid hw1.below
    clear hw1
    go_wp2_with fail
    go_loopw [4, 5, 6] (fun v4 v5 i wr => ∃ (j : Nat) (last out : List Int), j ≤ l0.length ∧ i = .int .i64 j ∧ last.length ≤ j ∧ out.length = j ∧ Hid (wr.ownsRow w.heap.size 2 1 v4 last.length (nums .i64 last) ∧ wr.ownsRow w.heap.size 3 1 v5 out.length (nums .i64 out) ∧ Below w.heap.size w wr ∧ res = plN (l0.drop j) last out)) (fun _ _ i _ => 60 - (intOf i).toNat)
    case atStart => exact ⟨0, [], [], Nat.zero_le _, rfl, Nat.le_refl _, rfl, Lib.hid ⟨⟨rfl, .inl ⟨rfl, rfl⟩⟩, ⟨rfl, .inl ⟨rfl, rfl⟩⟩, HW1.out, by rw [List.drop_zero]; exact HRES.out⟩⟩
    case round =>
      obtain ⟨j, last, out, hj, rfl, hll, hol, HI⟩ := hrel
      obtain ⟨wo, rfl⟩ : ∃ wo : World, wo = wr := ⟨_, rfl⟩
      obtain ⟨v5, rfl⟩ : ∃ v5, v5 = u5 := ⟨_, rfl⟩
      by_cases hlt : j < l0.length
      · have hlti : (j : Int) < (l0.length : Int) := by omega
        have j0 : (0 : Int) ≤ (j : Int) := by omega
        obtain ⟨ad, rfl, hx0⟩ := Kd.at_int HR.out (j : Int) j0 hlti
        rw [Int.toNat_natCast] at hx0
        have hx00 := hx0
        replace hx0 := (HI.out.2.2.1.cell (cell_size hx0)).trans hx0
        obtain ⟨n, hn⟩ : ∃ n, n = rd l0 (j : Int) := ⟨_, rfl⟩
        rw [← hn] at hx0 hx00
        have HX00 := Lib.hid hx00
        clear hx00
        have HX0 := Lib.hid hx0
        have HST : Hid (res = plN (n :: l0.drop (j + 1)) last out) := Lib.hid (by
          have h := HI.out.2.2.2
          rw [List.drop_eq_getElem_cons hlt, ← (show rd l0 (j : Int) = l0[j] by simp [rd, hlt]), ← hn] at h
          exact h)
        obtain ⟨ao, cap, rfl, hpc, hnn, hrd⟩ := own_out HI.out.1
        have HRD := Lib.hid hrd
        have HIS : Hid (wo.heap.size ≥ w.heap.size) := Lib.hid HI.out.2.2.1.size
        have hl40 : last.length ≤ 30 := by omega
        have HOL := Lib.hid hol
        clear hn hnn hrd hx0 hol
        go_wp2_with fail
        go_loopw [7] (fun i wq => ∃ p : Nat, p ≤ last.length ∧ i = .int .i64 p ∧ Hid (Below wo.heap.size wo wq ∧ ∀ q, q < p → ¬ rd last (q : Int) ≤ n)) (fun i _ => 60 - (intOf i).toNat)
        case atStart => exact ⟨0, Nat.zero_le _, rfl, Lib.hid ⟨Below.refl _ _, fun q hq => absurd hq (Nat.not_lt_zero _)⟩⟩
        case round =>
          obtain ⟨p, hp, rfl, HP⟩ := hrel
          obtain ⟨wq, rfl⟩ : ∃ wq : World, wq = wr := ⟨_, rfl⟩
          have p0 : (0 : Int) ≤ (p : Int) := by omega
          have hx := (HP.out.1.cell (cell_size HX0.out)).trans HX0.out
          by_cases hltp : p < last.length
          · have hltpi : (p : Int) < (last.length : Int) := by omega
            have hpne : ((p : Int) == (last.length : Int)) = false := beq_eq_false_iff_ne.2 (by omega)
            obtain ⟨g', cap', cur, hv', hg', hh', _⟩ := own_some (by omega) HI.out.1
            cases hv'
            obtain ⟨ad2, e2, hy⟩ := HRD.out.2.2 (by omega)
            cases e2
            replace hy := hy p hltp
            rw [show last.getD p 0 = rd last (p : Int) by simp [rd], add_plain] at hy
            replace hy := (HP.out.1.cell (cell_size hy)).trans hy
            obtain ⟨y, hye⟩ : ∃ y, y = rd last (p : Int) := ⟨_, rfl⟩
            rw [← hye] at hy
            clear hh'
            by_cases g : y ≤ n
            · have gd : decide (n < y) = false := decide_eq_false (by omega)
              have HF : Hid (last.findIdx (fun x => decide (x ≤ n)) = p) := Lib.hid (find_at hltp HP.out.2 (by rw [← hye]; exact g))
              clear hye g
              go_wp2_with fail
              go_quiet (fail)
              obtain ⟨wd, hwd⟩ : ∃ wd, wd = wq.drewN nq := ⟨_, rfl⟩
              have HBD : Hid (Below wo.heap.size wo wd) := Lib.hid (by rw [hwd]; exact HP.out.1.drewN' _)
              (try rw [← hwd])
              clear hwd hx hy
              have hxd := (HBD.out.cell (cell_size HX0.out)).trans HX0.out
              have HL := Lib.hid (own_below HI.out.1 HBD.out)
              have cy := World.ownsRow.cellAt HL.out p (by omega)
              rw [show (nums .i64 last)[p]? = some (.int .i64 (rd last (p : Int))) by simp [nums, rd, hltp]] at cy
              obtain ⟨y2, hy2⟩ : ∃ y2, y2 = rd last (p : Int) := ⟨_, rfl⟩
              rw [← hy2] at cy
              have fy := World.ownsRow.frozenAt HL.out p
              have HS2 := Lib.hid (own_set HL.out hltp n)
              have HO2 : Hid ((wd.setCell ⟨g', p, none⟩ (.int .i64 n)).ownsRow w.heap.size 3 1 v5 out.length (nums .i64 out)) := Lib.hid ((own_below HI.out.2.1 HBD.out).kept (grown_set wd g' p (.int .i64 n)) (by
                rcases own_types HI.out.2.1 HI.out.1 (by decide) with h | h
                · exact .inl h
                · exact .inr h))
              have HB2 : Hid (Below w.heap.size w (wd.setCell ⟨g', p, none⟩ (.int .i64 n))) := Lib.hid ((HI.out.2.2.1.trans (HBD.out.mono HIS.out)).setCell (p := ⟨g', p, none⟩) hg' _)
              obtain ⟨wz, hwz⟩ : ∃ wz, wz = wd.setCell ⟨g', p, none⟩ (.int .i64 n) := ⟨_, rfl⟩
              clear hy2
              go_upto_region 14 with fail
              rw [← hwz] at HS2 HO2 HB2 ⊢
              clear hwz fy cy hxd
              have o30 : out.length ≤ 30 := by rw [HOL.out]; omega
              go_wp2_with (first | (at_builtin; refine wpList_append_own _ rfl _ _ 23 rfl w.heap.size 3 i0 (.int .i64 0) 1 8 Try.underlying23 hi hz0 hz1 hz2 rfl (by decide) v5 out.length _ rfl (HO2.out.alloc _) ⟨wz.heap.size, 0, none⟩ 1 1 [.int .i64 (p : Int)] rfl rfl (cell_one_new _ _ _) (by simp [Value.oneCell']) (by unfold maxLen; omega) (by omega) (by have := HB2.out.size; simp; omega) ?_; intro v6 w6 hown5 hgrow5 _; have H5 := Lib.hid (And.intro hown5 hgrow5); clear hown5 hgrow5))
              refine ⟨?rel, ?measure⟩
              case rel =>
                refine ⟨j + 1, last.set p n, out ++ [(p : Int)], by omega, by go_num, by simp; omega, by simp; exact HOL.out, Lib.hid ⟨?_, ?_, ?_, ?_⟩⟩
                · have h1 := (HS2.out.alloc (.cells #[.int .i64 (p : Int)] 3)).kept H5.out.2 (own_types (HS2.out.alloc (.cells #[.int .i64 (p : Int)] 3)) (HO2.out.alloc (.cells #[.int .i64 (p : Int)] 3)) (by decide))
                  rw [List.length_set]; exact h1
                · have h1 := H5.out.1
                  rw [show nums .i64 out ++ [Value.int .i64 (p : Int)] = nums .i64 (out ++ [(p : Int)]) by simp [nums]] at h1
                  rw [List.length_append]; exact h1
                · exact (HB2.out.alloc HB2.out.size _).grown H5.out.2 (by have := HB2.out.size; simp; omega) (fun k e => own_from (HO2.out.alloc (.cells #[.int .i64 (p : Int)] 3)) e)
                · rw [HST.out, plN, HF.out, if_pos hltp]
              case measure => simp [intOf]; omega
            · have gd : decide (n < y) = true := decide_eq_true (by omega)
              have HP2 : Hid (∀ q, q < p + 1 → ¬ rd last (q : Int) ≤ n) := Lib.hid (fun q hq => by
                by_cases e : q = p
                · subst e; rw [← hye]; exact g
                · exact HP.out.2 q (by omega))
              clear hye g
              go_wp2_with fail
              go_quiet (fail)
              have HBD : Hid (Below wo.heap.size wo (wq.drewN nq)) := Lib.hid (HP.out.1.drewN' _)
              obtain ⟨wd, hwd⟩ : ∃ wd, wd = wq.drewN nq := ⟨_, rfl⟩
              rw [← hwd] at HBD
              (try rw [← hwd])
              clear hwd hx hy
              go_wp2_with fail
              refine ⟨⟨p + 1, by omega, by go_num, Lib.hid ⟨HBD.out, fun q hq => by have := HP2.out q hq; omega⟩⟩, by simp [intOf]; omega⟩
          · have hpe : p = last.length := by omega
            subst hpe
            have HF : Hid (¬ last.findIdx (fun x => decide (x ≤ n)) < last.length) := Lib.hid (find_none fun q hq => HP.out.2 q hq)
            go_wp2_with fail
            go_quiet (fail)
            obtain ⟨wd, hwd⟩ : ∃ wd, wd = wq.drewN nq := ⟨_, rfl⟩
            have HBD : Hid (Below wo.heap.size wo wd) := Lib.hid (by rw [hwd]; exact HP.out.1.drewN' _)
            (try rw [← hwd])
            clear hwd hx
            have HL := Lib.hid (own_below HI.out.1 HBD.out)
            have HO := Lib.hid (own_below HI.out.2.1 HBD.out)
            have HBW : Hid (Below w.heap.size w wd) := Lib.hid (HI.out.2.2.1.trans (HBD.out.mono HIS.out))
            have o30 : out.length ≤ 30 := by rw [HOL.out]; omega
            go_upto_region 13 with (first | (at_builtin; refine wpList_append_own _ rfl _ _ 22 rfl w.heap.size 2 ii64 (.int .i64 0) 1 8 Try.underlying22 hj' hy0 hy1 hy2 rfl (by decide) _ last.length _ rfl (HL.out.alloc _) ⟨wd.heap.size, 0, none⟩ 1 1 [.int .i64 0] rfl rfl (cell_one_new _ _ _) (by simp [Value.oneCell']) (by unfold maxLen; omega) (by omega) (by have := HBW.out.size; simp; omega) ?_; intro v6 w6 hown6 hgrow6 _; have H6 := Lib.hid (And.intro hown6 hgrow6); clear hown6 hgrow6))
            have HL6 : Hid (w6.ownsRow w.heap.size 2 1 v6 (last ++ [(0 : Int)]).length (nums .i64 (last ++ [(0 : Int)]))) := Lib.hid (by
              have h1 := H6.out.1
              rw [show nums .i64 last ++ [Value.int .i64 0] = nums .i64 (last ++ [(0 : Int)]) by simp [nums]] at h1
              rw [List.length_append]; exact h1)
            have HO6 := Lib.hid ((HO.out.alloc (.cells #[.int .i64 0] 2)).kept H6.out.2 (own_types (HO.out.alloc _) (HL.out.alloc (.cells #[.int .i64 0] 2)) (by decide)))
            have HB6 : Hid (Below w.heap.size w w6) := Lib.hid ((HBW.out.alloc HBW.out.size _).grown H6.out.2 (by have := HBW.out.size; simp; omega) (fun k e => own_from (HL.out.alloc (.cells #[.int .i64 0] 2)) e))
            obtain ⟨g', cap', cur, hv', hg', hh', _⟩ := own_some (by simp) HL6.out
            subst hv'
            clear hh'
            have hlen : (last ++ [(0 : Int)]).length = last.length + 1 := by simp
            have hxd : w6.cell? (ad.add j) = some (.int .i64 n) := (HB6.out.cell (cell_size HX00.out)).trans HX00.out
            have hltp : last.length < (last ++ [(0 : Int)]).length := by omega
            have hpl : (last.length : Int) < ((last ++ [(0 : Int)]).length : Int) := by omega
            have cy := World.ownsRow.cellAt HL6.out last.length (by omega)
            rw [show (nums .i64 (last ++ [(0 : Int)]))[last.length]? = some (.int .i64 0) by simp [nums]] at cy
            have fy := World.ownsRow.frozenAt HL6.out last.length
            have HS2 := Lib.hid (own_set HL6.out hltp n)
            have HO2 : Hid ((w6.setCell ⟨g', last.length, none⟩ (.int .i64 n)).ownsRow w.heap.size 3 1 v5 out.length (nums .i64 out)) := Lib.hid (HO6.out.kept (grown_set w6 g' last.length (.int .i64 n)) (by
              rcases own_types HO6.out HL6.out (by decide) with h | h
              · exact .inl h
              · exact .inr h))
            have HB2 : Hid (Below w.heap.size w (w6.setCell ⟨g', last.length, none⟩ (.int .i64 n))) := Lib.hid (HB6.out.setCell (p := ⟨g', last.length, none⟩) hg' _)
            have HN : Hid ((last ++ [(0 : Int)]).set last.length n = last ++ [n]) := Lib.hid (by simp)
            obtain ⟨wz, hwz⟩ : ∃ wz, wz = w6.setCell ⟨g', last.length, none⟩ (.int .i64 n) := ⟨_, rfl⟩
            rw [hlen] at hpl HS2 ⊢
            clear hlen hltp H6
            go_upto_region 14 with fail
            rw [← hwz] at HS2 HO2 HB2 ⊢
            clear hwz fy cy hxd
            go_wp2_with (first | (at_builtin; refine wpList_append_own _ rfl _ _ 23 rfl w.heap.size 3 i0 (.int .i64 0) 1 8 Try.underlying23 hi hz0 hz1 hz2 rfl (by decide) v5 out.length _ rfl (HO2.out.alloc _) ⟨wz.heap.size, 0, none⟩ 1 1 [.int .i64 (last.length : Int)] rfl rfl (cell_one_new _ _ _) (by simp [Value.oneCell']) (by unfold maxLen; omega) (by omega) (by have := HB2.out.size; simp; omega) ?_; intro v6 w7 hown5 hgrow5 _; have H5 := Lib.hid (And.intro hown5 hgrow5); clear hown5 hgrow5))
            refine ⟨?rel, ?measure⟩
            case rel =>
              refine ⟨j + 1, last ++ [n], out ++ [(last.length : Int)], by omega, by go_num, by simp; omega, by simp; exact HOL.out, Lib.hid ⟨?_, ?_, ?_, ?_⟩⟩
              · have h1 := (HS2.out.alloc (.cells #[.int .i64 (last.length : Int)] 3)).kept H5.out.2 (own_types (HS2.out.alloc (.cells #[.int .i64 (last.length : Int)] 3)) (HO2.out.alloc (.cells #[.int .i64 (last.length : Int)] 3)) (by decide))
                rw [HN.out] at h1
                rw [List.length_append]; exact h1
              · have h1 := H5.out.1
                rw [show nums .i64 out ++ [Value.int .i64 (last.length : Int)] = nums .i64 (out ++ [(last.length : Int)]) by simp [nums]] at h1
                rw [List.length_append]; exact h1
              · exact (HB2.out.alloc HB2.out.size _).grown H5.out.2 (by have := HB2.out.size; simp; omega) (fun k e => own_from (HO2.out.alloc (.cells #[.int .i64 (last.length : Int)] 3)) e)
              · rw [HST.out, plN, if_neg HF.out]
            case measure => simp [intOf]; omega
      · have hnl : ¬ (j : Int) < (l0.length : Int) := by omega
        have HE : Hid (res = out) := Lib.hid (by
          have h := HI.out.2.2.2
          rw [List.drop_eq_nil_of_le (by omega)] at h
          exact h)
        go_wp2_with fail
        go_ret2
        refine ⟨_, rfl, ?_, HI.out.2.2.1⟩
        rw [HE.out]
        exact Kd.R_of_own (enc := Value.int .i64) (h1 := fun _ => rfl) HI.out.2.1 (fun _ _ => trivial)
  · rw [if_pos ho] at h
    obtain ⟨rfl, rfl⟩ : [] = r1 ∧ E = r2 := by simpa using h
    have hb : (E != 0) = true := bne_iff_ne.2 ho
    clear h hr0 ho
    go_enter Try.func32, Try.ntmps32
    go_wp2_with fail
    refine HC0.out.mono ?_
    rintro e w1 ⟨rfl, hw⟩
    have HW := Lib.hid hw.below
    clear hw
    have HC1 := Lib.hid (HC.out w1 HW.out)
    go_wp2_with fail
    refine HC1.out.mono ?_
    rintro e w2 ⟨rfl, hw⟩
    have HW2 := Lib.hid hw.below
    clear hw
    go_wp2_with fail
    go_ret2
    exact ⟨_, rfl, Kd.R_nil _ _ _ _ _, HW.out.trans (HW2.out.mono HW.out.size)⟩
end Go.Proofs.Ytmfonbonfhngnaa.Hand

/- Number comes to plain numbers. -/
import Derived.Test.YtmgdidhhgdpobaaHChance
namespace Go.Proofs.Ytmgdidhhgdpobaa.Hand
open Go.RowKit Go.Maps Go.Proofs.YtmgdidhhgdpobaaW.PrintWords Go.Proofs.YtmgdidhhgdpobaaW.PrintLast Go.Proofs.YtmgdidhhgdpobaaW.PrintMore Go.Proofs.Ytmgdidhhgdpobaa.PrA

/-- logs from a next one on, each later than the one before it -/
def okFrom (a : Int) : Int → List Int → Bool
  | _, [] => true
  | n, x :: l => !outB n (a - 1) x && okFrom a (x + 1) l
/-- the samples that come after one -/
def afterN (a : Int) : List Int → Int
  | [] => 0
  | x :: l => (binom (a - x - 1).toNat (l.length + 1) : Int) + afterN a l
def check_Number.f (a0 : Int) (l1 : List Int) : Option (Int × Int) :=
  some (if outB 1 50 a0 then (0, 3) else if okFrom a0 0 l1 then ((binom a0.toNat l1.length : Int) - 1 - afterN a0 l1, 0) else (0, 2))

theorem okFrom_len : ∀ (l : List Int) (a n : Int), n ≤ a → okFrom a n l = true → n + l.length ≤ a
  | [], _, _, h, _ => by simpa using h
  | x :: l, a, n, _, h => by
    simp only [okFrom, Bool.and_eq_true, Bool.not_eq_true'] at h
    have h1 := out_in h.1
    have := okFrom_len l a (x + 1) (by omega) h.2
    simp only [List.length_cons]; omega
theorem okFrom_mem : ∀ (l : List Int) (a n : Int), okFrom a n l = true → ∀ x ∈ l, n ≤ x ∧ x ≤ a - 1
  | [], _, _, _, x, hx => by simp at hx
  | y :: l, a, n, h, x, hx => by
    simp only [okFrom, Bool.and_eq_true, Bool.not_eq_true'] at h
    have h1 := out_in h.1
    rcases List.mem_cons.1 hx with rfl | hx
    · exact h1
    · have := okFrom_mem l a (y + 1) h.2 x hx; omega
theorem drop_cons_rd (l : List Int) (k : Nat) (h : k < l.length) : l.drop k = rd l (k : Int) :: l.drop (k + 1) := by
  rw [List.drop_eq_getElem_cons h]; simp [rd, h]
theorem afterN_bound : ∀ (l : List Int) (a : Int), a ≤ 50 → (∀ x ∈ l, 0 ≤ x) → 0 ≤ afterN a l ∧ afterN a l ≤ (l.length : Int) * 1125899906842624
  | [], _, _, _ => by simp [afterN]
  | x :: l, a, h, hx => by
    have ih := afterN_bound l a h (fun y hy => hx y (by simp [hy]))
    have h0 := hx x (by simp)
    have hb := binom_le50 (a - x - 1).toNat (l.length + 1) (by omega)
    simp only [afterN, List.length_cons]
    omega

set_option maxHeartbeats 4000000 in
set_option maxRecDepth 100000 in
theorem check_Number.calls (a0 : Int) (A1 : Option Addr) (c1 : Nat) (l1 : List Int) (r1 r2 : Int) (w : World) (hr1 : Kd.C (Kd.int .i64) w A1 l1.length l1) (hc1 : l1.length ≤ c1) (h : check_Number.f a0 l1 = some (r1, r2)) :
    Calls Try.prog 28 #[.int .i64 a0, .slice A1 l1.length c1] w fun e w' => e = .returned (.tuple #[.int .i64 r1, .int .i64 r2]) ∧ Below w.heap.size w w' := by
  have hm : l1.length ≤ 9223372036854775807 := hr1.2.1
  have h := Option.some.inj h
  have HR1 := Lib.hid hr1
  have hc := within1 1 50 a0 w
  clear hr1
  cases hb : outB 1 50 a0
  · rw [hb] at h hc
    simp only [Bool.false_eq_true, if_false] at h
    have HF := Lib.hid h
    clear h
    have HC := Lib.hid hc
    obtain ⟨p0, p1⟩ := out_in hb
    clear hc hb
    go_enter Try.func28, Try.ntmps28
    go_wp2_with fail
    refine HC.out.mono ?_
    rintro e w1 ⟨rfl, hb1⟩
    have HB1 := Lib.hid hb1
    clear hb1
    go_wp2
    go_loopw [6, 18] (fun x j wr => ∃ (k : Nat) (n : Int), k ≤ l1.length ∧ j = .int .i64 k ∧ x = .int .i64 n ∧ 0 ≤ n ∧ n ≤ a0 ∧ Hid (okFrom a0 n (l1.drop k) = okFrom a0 0 l1) ∧ Hid (Below w.heap.size w wr)) (fun _ j _ => l1.length - (intOf j).toNat)
    case atStart => exact ⟨0, 0, Nat.zero_le _, rfl, rfl, by omega, by omega, rfl, HB1.out⟩
    case round =>
      obtain ⟨k, n, hk, rfl, rfl, hn0, hn1, HO, HW⟩ := hrel
      by_cases hlt : k < l1.length
      · have hrw := Kd.C_below HR1.out HW.out
        obtain ⟨ad, e1, hx⟩ := Kd.at_int hrw (k : Int) (by omega) (by omega)
        cases e1
        rw [Int.toNat_natCast] at hx
        have hd := drop_cons_rd l1 k hlt
        obtain ⟨x, hx1⟩ : ∃ x, x = rd l1 (k : Int) := ⟨_, rfl⟩
        rw [← hx1] at hx hd
        have hoo := HO.out
        rw [hd] at hoo
        simp only [okFrom] at hoo
        have hcw := fun W : World => within1 n (a0 - 1) x W
        cases hbx : outB n (a0 - 1) x
        · rw [hbx] at hcw hoo
          obtain ⟨q0, q1⟩ := out_in hbx
          have HOO := Lib.hid hoo
          have HCW := Lib.hid hcw
          clear hoo hcw hd hx1 hrw hbx
          go_wp2_with fail
          refine (HCW.out _).mono ?_
          rintro e w2 ⟨rfl, hb2⟩
          have HB2 := Lib.hid hb2
          clear hb2
          go_wp2
          go_roundw
          case rel => exact ⟨k + 1, x + 1, by omega, by go_num, rfl, by omega, by omega, Lib.hid (by simpa using HOO.out), HW.out.trans (HB2.out.mono HW.out.size)⟩
          case measure => simp [intOf]; omega
        · rw [hbx] at hcw hoo
          have HOO := Lib.hid hoo
          have HCW := Lib.hid hcw
          clear hoo hcw hd hx1 hrw hbx
          go_wp2_with fail
          refine (HCW.out _).mono ?_
          rintro e w2 ⟨rfl, hb2⟩
          have HB2 := Lib.hid hb2
          clear hb2
          go_wp2
          go_ret2
          have h1 := HF.out
          have h2 : okFrom a0 0 l1 = false := by simpa using HOO.out.symm
          rw [h2] at h1
          simp only [Bool.false_eq_true, if_false, Prod.mk.injEq] at h1
          obtain ⟨rfl, rfl⟩ := h1
          exact ⟨rfl, HW.out.trans (HB2.out.mono HW.out.size)⟩
      · have hke : k = l1.length := by omega
        have hok : okFrom a0 0 l1 = true := by rw [← HO.out, hke, List.drop_length]; rfl
        have hlen := okFrom_len l1 a0 0 (by omega) hok
        have hmem := okFrom_mem l1 a0 0 hok
        have hab := afterN_bound l1 a0 p1 (fun x hx => (hmem x hx).1)
        have h1 := HF.out
        rw [hok] at h1
        simp only [if_true, Prod.mk.injEq] at h1
        have HR := Lib.hid h1
        have HM := Lib.hid hmem
        clear hke hok hmem h1
        go_wp2
        have hlen' : l1.length ≤ 50 := by omega
        obtain ⟨ha0, ha1⟩ := hab
        obtain ⟨wo, rfl⟩ : ∃ wo : World, wo = wr := ⟨_, rfl⟩
        go_loopw [9, 34] (fun y j wr => ∃ (i : Nat) (m : Int), i ≤ l1.length ∧ j = .int .i64 i ∧ y = .int .i64 m ∧ 0 ≤ m ∧ m ≤ (i : Int) * 1125899906842624 ∧ Hid (m + afterN a0 (l1.drop i) = afterN a0 l1) ∧ Hid (Below w.heap.size w wr)) (fun _ j _ => l1.length - (intOf j).toNat)
        case atStart => exact ⟨0, 0, Nat.zero_le _, rfl, rfl, by omega, by omega, by show (0 : Int) + _ = _; rw [Int.zero_add, List.drop_zero], HW.out⟩
        case round =>
          obtain ⟨i, m, hi, rfl, rfl, hm0, hm1, HA, HV⟩ := hrel
          by_cases hli : i < l1.length
          · have hrw := Kd.C_below HR1.out HV.out
            obtain ⟨ad, e1, hx⟩ := Kd.at_int hrw (i : Int) (by omega) (by omega)
            cases e1
            rw [Int.toNat_natCast] at hx
            have hd := drop_cons_rd l1 i hli
            obtain ⟨x, hx1⟩ : ∃ x, x = rd l1 (i : Int) := ⟨_, rfl⟩
            rw [← hx1] at hx hd
            have hxm := HM.out x (by rw [hx1]; simp [rd, hli])
            obtain ⟨x0, x1⟩ := hxm
            have haa := HA.out
            rw [hd] at haa
            simp only [afterN, List.length_drop] at haa
            have hbz := binom_le50 (a0 - x - 1).toNat (l1.length - (i + 1) + 1) (by omega)
            obtain ⟨z, hz⟩ : ∃ z : Nat, z = binom (a0 - x - 1).toNat (l1.length - (i + 1) + 1) := ⟨_, rfl⟩
            rw [← hz] at haa hbz
            have hch := choices_int (a0 - x - 1) (by omega) (by omega)
            obtain ⟨q, hq⟩ : ∃ q : Nat, q = (a0 - x - 1).toNat := ⟨_, rfl⟩
            rw [← hq] at hch hz
            have hq50 : q ≤ 50 := by omega
            have HCH := Lib.hid hch
            clear hch hq
            have hix : ∀ w', (Instr.index 82 (.agg (cellsOf (rowF q))) (.int .i64 ((l1.length : Int) - (i : Int)))).run Try.prog w' = .ok (.int .i64 z) w' := fun w' => by
              rw [show ((l1.length : Int) - (i : Int)) = ((l1.length - (i + 1) + 1 : Nat) : Int) by omega, hz]
              exact run_index_agg w' row_under row_key row_cells (by omega) (cellsOf_get _ _ (by omega))
            have HAA := Lib.hid haa
            clear haa hd hx1 hrw hz
            go_wp2_with fail
            refine (HCH.out _).mono ?_
            rintro e w2 ⟨rfl, hb2⟩
            have HB2 := Lib.hid hb2
            clear hb2
            go_wp2
            go_roundw
            case rel => exact ⟨i + 1, m + z, by omega, by go_num, rfl, by omega, by omega, Lib.hid (by have := HAA.out; omega), HV.out.trans (HB2.out.mono HV.out.size)⟩
            case measure => simp [intOf]; omega
          · have hie : i = l1.length := by omega
            have hme : m = afterN a0 l1 := by rw [← HA.out, hie, List.drop_length]; simp [afterN]
            have HME := Lib.hid hme
            have hbz := binom_le50 a0.toNat l1.length (by omega)
            have hr := HR.out
            rw [← hme] at hr
            obtain ⟨hr1', rfl⟩ := hr
            obtain ⟨z, hz⟩ : ∃ z : Nat, z = binom a0.toNat l1.length := ⟨_, rfl⟩
            rw [← hz] at hbz hr1'
            have HR2 := Lib.hid hr1'
            have hix : ∀ w', (Instr.index 82 (.agg (cellsOf (rowF a0.toNat))) (.int .i64 (l1.length : Int))).run Try.prog w' = .ok (.int .i64 z) w' := fun w' => by
              rw [hz]; exact run_index_agg w' row_under row_key row_cells (by omega) (cellsOf_get _ _ (by omega))
            clear hie hme hz hr1'
            go_wp2_with fail
            refine (choices_int a0 (by omega) p1 _).mono ?_
            rintro e w2 ⟨rfl, hb2⟩
            have HB2 := Lib.hid hb2
            clear hb2
            go_wp2
            go_ret2
            exact ⟨congrArg (fun z => Ending.returned (.tuple #[.int .i64 z, .int .i64 0])) HR2.out, HV.out.trans (HB2.out.mono HV.out.size)⟩
  · rw [hb] at h hc
    simp only [if_true, Prod.mk.injEq] at h
    obtain ⟨rfl, rfl⟩ := h
    have HC := Lib.hid hc
    clear hc hb
    go_enter Try.func28, Try.ntmps28
    go_wp2_with fail
    refine HC.out.mono ?_
    rintro e w1 ⟨rfl, hb1⟩
    have HB1 := Lib.hid hb1
    clear hb1
    go_wp2
    go_ret2
    exact ⟨rfl, HB1.out⟩
end Go.Proofs.Ytmgdidhhgdpobaa.Hand

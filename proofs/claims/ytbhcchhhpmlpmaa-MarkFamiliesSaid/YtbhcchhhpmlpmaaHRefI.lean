/- The reference's clashes: for each mark that is asked for, those with which it clashes, as bits (in the printed form). -/
import Derived.Test.YtbhcchhhpmlpmaaHRefG
import Derived.Test.YtbhcchhhpmlpmaaMC
namespace Go.Proofs.Ytbhcchhhpmlpmaa.PrW
set_option linter.unusedVariables false
set_option linter.unusedSimpArgs false
open Go.RowKit Go.Maps Go.Proofs.Ytbhcchhhpmlpmaa.Hand Go.Proofs.YtbhcchhhpmlpmaaW.PrintWords Go.Proofs.YtbhcchhhpmlpmaaW.PrintLast Go.Proofs.YtbhcchhhpmlpmaaW.PrintMore Go.Proofs.Ytbhcchhhpmlpmaa.PrA Go.Proofs.Ytbhcchhhpmlpmaa.PrR Go.Proofs.Ytbhcchhhpmlpmaa.PrT Go.Proofs.Ytbhcchhhpmlpmaa.PrV

/-- the bits of the numbers below one that are so -/
def bitsTo (p : Nat → Bool) : Nat → Nat
  | 0 => 0
  | k + 1 => bitsTo p k + (if p k then 2 ^ k else 0)
theorem bitsTo_lt (p : Nat → Bool) : ∀ k, bitsTo p k < 2 ^ k
  | 0 => by simp [bitsTo]
  | k + 1 => by
    have := bitsTo_lt p k
    rw [bitsTo, Nat.pow_succ]
    split <;> omega
/-- does a mark that is asked for clash with one, or with an owner's? -/
def clC (l : List Int) (a1 : Int) (marks : List Int) (i k : Nat) : Bool := if k = i then !freeN l a1 (mk marks i) else clN marks a1 i k
def clashL (l : List Int) (a1 : Int) (marks : List Int) : Nat → List Int
  | 0 => []
  | i + 1 => clashL l a1 marks i ++ [(bitsTo (clC l a1 marks i) marks.length : Int)]
theorem clashL_length (l : List Int) (a1 : Int) (marks : List Int) : ∀ n, (clashL l a1 marks n).length = n
  | 0 => rfl
  | n + 1 => by rw [clashL, List.length_append, clashL_length l a1 marks n]; rfl
theorem two_pow_le {k : Nat} (h : k ≤ 12) : 2 ^ k ≤ 4096 := Nat.pow_le_pow_right (n := 2) (by decide) h
theorem int_pow (k : Nat) : ((2 : Int) ^ k) = ((2 ^ k : Nat) : Int) := by simp

set_option maxHeartbeats 8000000 in
set_option maxRecDepth 100000 in
theorem clashes_good (a0 a1 : Int) (A : Option Addr) (c : Nat) (l : List Int) (Am : Option Addr) (cm : Nat) (marks : List Int) (w : World) (hr : Kd.C (Kd.int .i64) w A l.length l) (hc : l.length ≤ c)
    (hmr : Kd.C (Kd.int .i64) w Am marks.length marks) (hmc : marks.length ≤ cm) (h0 : askedN a0 a1 l marks = 0) :
    Calls Try.prog 75 #[.agg #[.int .i64 a0, .int .i64 a1, .slice A l.length c], .slice Am marks.length cm] w
      fun e w' => ∃ v0_ : Value, e = .returned v0_ ∧ Kd.R (Kd.int .i64) 3 w' w.heap.size (fun _ => True) v0_ (clashL l a1 marks marks.length) ∧ Below w.heap.size w w' := by
  have hu := Try.underlying24
  obtain ⟨W, hW⟩ : ∃ W, W = w.alloc (.cells #[.int .i64 a0, .int .i64 a1, .slice A l.length c] 24) := ⟨_, rfl⟩
  have hbl : Below w.heap.size w W := by rw [hW]; exact (Below.refl w.heap.size w).alloc (Nat.le_refl _) _
  have hB : RegAt W w.heap.size a0 a1 A c l := by rw [hW]; refine ⟨?_, ?_, ?_⟩ <;> simp [go_sem]
  have HB := Lib.hid hB
  have HBL := Lib.hid hbl
  have HR := Lib.hid hr
  have HM := Lib.hid hmr
  have HAM := Lib.hid (asked_marks h0)
  have hm12 : marks.length ≤ 12 := (asked_zero h0).2.1
  clear hbl hB hr hmr h0
  go_enter Try.func75, Try.ntmps75
  go_wp2_with fail
  rw [← hW]
  clear hW
  go_loopw [5, 6] (fun v j wr => ∃ (i : Nat) (xs : List Int), i ≤ marks.length ∧ j = .int .i64 i ∧ xs.length = i ∧ Hid (xs = clashL l a1 marks i) ∧ Hid (wr.ownsRow W.heap.size 3 1 v xs.length (nums .i64 xs) ∧ Below W.heap.size W wr)) (fun _ j _ => 60 - (intOf j).toNat)
  case atStart => exact ⟨0, [], Nat.zero_le _, rfl, rfl, Lib.hid rfl, Lib.hid ⟨⟨rfl, .inl ⟨rfl, rfl⟩⟩, Below.refl _ _⟩⟩
  case round =>
    obtain ⟨i, xs, hi, rfl, hxi, HX, HI⟩ := hrel
    by_cases hlt : i < marks.length
    · have hlt' : (i : Int) < (marks.length : Int) := by omega
      obtain ⟨wo, rfl⟩ : ∃ wo : World, wo = wr := ⟨_, rfl⟩
      go_wp2_with fail
      go_loopw [7, 8] (fun b k wr => ∃ (t : Nat), t ≤ marks.length ∧ k = .int .i64 t ∧ b = .int .i64 (bitsTo (clC l a1 marks i) t : Nat) ∧ Hid (Below wo.heap.size wo wr)) (fun _ k _ => 60 - (intOf k).toNat)
      case atStart => exact ⟨0, Nat.zero_le _, rfl, rfl, Lib.hid (Below.refl _ _)⟩
      case round =>
        obtain ⟨t, ht, rfl, rfl, HJ⟩ := hrel
        by_cases hlt2 : t < marks.length
        · have hlt2' : (t : Int) < (marks.length : Int) := by omega
          have hbb := (HBL.out.trans (HI.out.2.mono HBL.out.size)).trans (HJ.out.mono (Nat.le_trans HBL.out.size HI.out.2.size))
          obtain ⟨am, rfl, hy⟩ := Kd.at_int (Kd.C_below HM.out hbb) (i : Int) (by omega) hlt'
          obtain ⟨am', e', hz⟩ := Kd.at_int (Kd.C_below HM.out hbb) (t : Int) (by omega) hlt2'
          cases e'
          rw [Int.toNat_natCast] at hy hz
          have hmi := HAM.out.2.2.1 i hlt
          have hmt := HAM.out.2.2.1 t hlt2
          have hri := HAM.out.2.2.2 i hlt
          rw [hmi.1] at hy
          rw [hmt.1] at hz
          obtain ⟨b0, b1, b2⟩ := reg_below HB.out (HI.out.2.trans (HJ.out.mono HI.out.2.size)) (cell_size HB.out.1)
          have k0 := kept_cell' b0
          have k1 := kept_cell' b1
          have k2 := kept_cell' b2
          have k3 := kept_cell' hy
          have k4 := kept_cell' hz
          have hlt3 := bitsTo_lt (clC l a1 marks i) t
          have hp12 := two_pow_le (show t ≤ 12 by omega)
          obtain ⟨B, hBB⟩ : ∃ B, B = bitsTo (clC l a1 marks i) t := ⟨_, rfl⟩
          obtain ⟨p2, hp2⟩ : ∃ p2 : Nat, p2 = 2 ^ t := ⟨_, rfl⟩
          rw [← hBB] at hlt3
          rw [← hp2] at hlt3 hp12
          have hs1 : IntKind.i64.wrap ((2 : Int) ^ t) = (p2 : Int) := by rw [int_pow, ← hp2]; exact IntWalk.i64_in _ (by omega)
          have hs2 : IntKind.i64.wrap (1 * (2 : Int) ^ t) = (p2 : Int) := by rw [Int.one_mul]; exact hs1
          have hs3 : IntKind.i64.wrap ((B : Int) + (p2 : Int)) = ((B + p2 : Nat) : Int) := by rw [IntWalk.i64_in _ (by omega)]; omega
          have HP2 := Lib.hid hp2
          have HBN := Lib.hid hBB
          rw [← hBB]
          clear hp2 hBB b0 b1 b2 hy hz
          by_cases he : t = i
          · have g23 : ((t : Int) == (i : Int)) = true := beq_iff_eq.2 (by omega)
            have g36 : ((t : Int) != (i : Int)) = false := by rw [he]; simp
            obtain ⟨v, hv⟩ : ∃ v, v = freeN l a1 (mk marks i) := ⟨_, rfl⟩
            have hcall := refIsFree_is HAM.out.1 hri.1 hri.2 (Nat.le_refl 1200)
            rw [← hv] at hcall
            have HIF := Lib.hid (fun y : Kw wr.heap.size wr => peaveyref01_IsFree.calls 1200 a0 a1 A c l (mk marks i : Int) v y.1 (Kd.C_below HR.out (hbb.trans (y.2.mono hbb.size))) hc hcall)
            have HV : Hid (bitsTo (clC l a1 marks i) (t + 1) = B + if v then 0 else p2) := Lib.hid (by rw [bitsTo, ← HBN.out, clC, if_pos he, ← hv, HP2.out]; cases v <;> rfl)
            clear hv hcall hbb hmi hmt hri
            have HE := Lib.hid he
            clear he
            cases v
            all_goals
              go_wp2_with fail
              refine wp_region_kept wr.heap.size wr (by kernel_rfl) (by kernel_rfl) (Below.refl _ _) ?_
              repeat (go_big_quiet_step (first | with_reducible exact kept_calls _ (Nat.le_refl _) (HIF.out _)))
              refine wpQuiet_nil ?_
              rintro _ ⟨X, rfl⟩
              have HJ2 := Lib.hid (HJ.out.trans (X.2.mono HJ.out.size))
              clear k0 k1 k2 k3 k4 HIF
              go_wp2_with fail
              go_roundw
              case rel => exact ⟨t + 1, by omega, by go_num, (by rw [HV.out]; first | done | rfl), HJ2⟩
              case measure => simp [intOf]; omega
          · have g23 : ((t : Int) == (i : Int)) = false := beq_eq_false_iff_ne.2 (by omega)
            have g36 : ((t : Int) != (i : Int)) = true := bne_iff_ne.2 (by omega)
            obtain ⟨b, hb⟩ : ∃ b, b = bothV (mk marks i) (mk marks t) a1 := ⟨_, rfl⟩
            have hcall := refBoth_is (mk marks i) (mk marks t) a1 hmi.2 hmt.2 (Nat.le_refl 1100)
            have hneg := bothV_neg (mk marks i) (mk marks t) a1
            rw [← hb] at hcall hneg
            have HBO := Lib.hid (fun y : World => (peaveyref01_Both.calls 1100 (mk marks i : Int) (mk marks t : Int) a1 b y hcall).mono fun _ _ h => And.intro h.1 h.2.below)
            have hv : bitsTo (clC l a1 marks i) (t + 1) = B + if clN marks a1 i t then p2 else 0 := by rw [bitsTo, ← HBN.out, clC, if_neg he, HP2.out]
            clear hb hcall hbb hri hmi hmt
            have HE := Lib.hid he
            clear he
            by_cases hn : b < 0
            · have hf : clN marks a1 i t = false := decide_eq_false (hneg.1 hn)
              rw [hf] at hv
              have HV := Lib.hid hv
              have g49 : decide (0 ≤ b) = false := decide_eq_false (by omega)
              clear hf hv hneg
              have HNN := Lib.hid hn
              clear hn
              go_wp2_with fail
              refine wp_region_kept wr.heap.size wr (by kernel_rfl) (by kernel_rfl) (Below.refl _ _) ?_
              repeat (go_big_quiet_step (first | with_reducible exact kept_calls _ (Nat.le_refl _) (HBO.out _)))
              refine wpQuiet_nil ?_
              rintro _ ⟨X, rfl⟩
              have HJ2 := Lib.hid (HJ.out.trans (X.2.mono HJ.out.size))
              clear k0 k1 k2 k3 k4 HBO
              go_wp2_with fail
              go_roundw
              case rel => exact ⟨t + 1, by omega, by go_num, (by rw [HV.out]; first | done | rfl), HJ2⟩
              case measure => simp [intOf]; omega
            · have hf : clN marks a1 i t = true := by
                refine decide_eq_true ?_
                rcases Int.lt_or_le a1 (farN (mk marks i) (mk marks t) : Int) with g | g
                · exact absurd (hneg.2 (by omega)) hn
                · exact g
              rw [hf] at hv
              have HV := Lib.hid hv
              have g49 : decide (0 ≤ b) = true := decide_eq_true (by omega)
              clear hf hv hneg
              have HNN := Lib.hid hn
              clear hn
              go_wp2_with fail
              refine wp_region_kept wr.heap.size wr (by kernel_rfl) (by kernel_rfl) (Below.refl _ _) ?_
              repeat (go_big_quiet_step (first | with_reducible exact kept_calls _ (Nat.le_refl _) (HBO.out _)))
              refine wpQuiet_nil ?_
              rintro _ ⟨X, rfl⟩
              have HJ2 := Lib.hid (HJ.out.trans (X.2.mono HJ.out.size))
              clear k0 k1 k2 k3 k4 HBO
              go_wp2_with fail
              go_roundw
              case rel => exact ⟨t + 1, by omega, by go_num, (by rw [HV.out]; first | done | rfl), HJ2⟩
              case measure => simp [intOf]; omega
        · have hnl : ¬ ((t : Int) < (marks.length : Int)) := by omega
          have HT : Hid (t = marks.length) := Lib.hid (by omega)
          have hlt3 := bitsTo_lt (clC l a1 marks i) t
          have HX2 : Hid (xs ++ [((bitsTo (clC l a1 marks i) t : Nat) : Int)] = clashL l a1 marks (i + 1)) := Lib.hid (by rw [clashL, ← HX.out, HT.out])
          have HI3 := Lib.hid (And.intro (pw_own_below HI.out.1 HJ.out) (HI.out.2.trans (HJ.out.mono HI.out.2.size)))
          obtain ⟨B, hBB⟩ : ∃ B : Int, B = ((bitsTo (clC l a1 marks i) t : Nat) : Int) := ⟨_, rfl⟩
          rw [← hBB] at HX2 ⊢
          clear hlt3 hBB
          go_wp2_with (first | (at_builtin; refine print_append_num (w0 := W) W.heap.size rfl (.tmp 56) (.tmp 58) 22 3 .i64 8 rfl Try.underlying22 infoInt (by decide) u5 xs B rfl rfl HI3.out.1 HI3.out.2 HI3.out.2.size (by omega) ?_; intro v5 w5 hown5 hb5 hg5 _; have H5 := Lib.hid (And.intro hown5 hb5); clear hown5 hb5 hg5))
          go_roundw
          case rel => exact ⟨i + 1, xs ++ [B], by omega, by go_num, by simp; omega, HX2, Lib.hid ⟨H5.out.1, H5.out.2⟩⟩
          case measure => simp [intOf]; omega
    · have hnl : ¬ ((i : Int) < (marks.length : Int)) := by omega
      have HK : Hid (i = marks.length) := Lib.hid (by omega)
      go_wp2
      go_ret
      refine ⟨_, rfl, ?_, HBL.out.trans (HI.out.2.mono HBL.out.size)⟩
      rw [← HK.out, ← HX.out]
      exact Kd.R_of_own (enc := Value.int .i64) (h1 := fun _ => rfl) (own_lower HI.out.1 HBL.out.size) (fun _ _ => trivial)

/-- what the reference's clashes come to, if what is asked for is right -/
def peaveyref01_clashes.f (a0_0 a0_1 : Int) (l0_2 l1 : List Int) : Option (List Int) := if askedN a0_0 a0_1 l0_2 l1 = 0 then some (clashL l0_2 a0_1 l1 l1.length) else none
theorem peaveyref01_clashes.calls (a0_0 : Int) (a0_1 : Int) (A0_2 : Option Addr) (c0_2 : Nat) (l0_2 : List Int) (A1 : Option Addr) (c1 : Nat) (l1 : List Int) (r : List Int) (w : World) (hr0_2 : Kd.C (Kd.int .i64) w A0_2 l0_2.length l0_2) (hc0_2 : l0_2.length ≤ c0_2)
    (hr1 : Kd.C (Kd.int .i64) w A1 l1.length l1) (hc1 : l1.length ≤ c1) (h : peaveyref01_clashes.f a0_0 a0_1 l0_2 l1 = some r) :
    Calls Try.prog 75 #[.agg #[.int .i64 a0_0, .int .i64 a0_1, .slice A0_2 l0_2.length c0_2], .slice A1 l1.length c1] w fun e w' => ∃ v0_ : Value, e = .returned (v0_) ∧ Kd.R (Kd.int .i64) 3 w' w.heap.size (fun _ => True) v0_ r ∧ Below w.heap.size w w' := by
  unfold peaveyref01_clashes.f at h
  split at h
  · rename_i h0
    cases h
    exact clashes_good a0_0 a0_1 A0_2 c0_2 l0_2 A1 c1 l1 w hr0_2 hc0_2 hr1 hc1 h0
  · cases h
end Go.Proofs.Ytbhcchhhpmlpmaa.PrW

/- Chance and Likely come to plain numbers. -/
import Derived.Test.YtmgdidhhgdpobaaHFirst
import Derived.RegionTactic
namespace Go.Proofs.Ytmgdidhhgdpobaa.Hand
open Go.RowKit Go.Maps Go.Proofs.YtmgdidhhgdpobaaW.PrintWords Go.Proofs.YtmgdidhhgdpobaaW.PrintLast Go.Proofs.YtmgdidhhgdpobaaW.PrintMore Go.Proofs.Ytmgdidhhgdpobaa.PrA

/-- the chance, in least terms -/
def gcdN (a w s f : Int) : Nat := Nat.gcd (binom a.toNat s.toNat) (uptoN a w s f).toNat
def check_Chance.f (a0 a1 a2 a3 : Int) : Option (Int × Int × Int) :=
  some (if caseB a0 a1 a2 a3 then (uptoN a0 a1 a2 a3 / (gcdN a0 a1 a2 a3 : Int), (binom a0.toNat a2.toNat : Int) / (gcdN a0 a1 a2 a3 : Int), 0) else (0, 0, 3))

theorem uptoN_nat (a w s f : Int) : ((uptoN a w s f).toNat : Int) = uptoN a w s f := by unfold uptoN; rw [Int.toNat_natCast]
theorem uptoN_le {a w s f : Int} (h1 : 0 ≤ w) (h2 : w ≤ a) (h3 : 0 ≤ f) (h4 : f ≤ s) : (uptoN a w s f).toNat ≤ binom a.toNat s.toNat := by
  unfold uptoN
  rw [Int.toNat_natCast]
  have := upN_le w.toNat (a - w).toNat s.toNat (f.toNat + 1) (by omega)
  rwa [show w.toNat + (a - w).toNat = a.toNat by omega] at this

set_option maxHeartbeats 2000000 in
theorem check_Chance.calls (a0 a1 a2 a3 r1 r2 r3 : Int) (w : World) (h : check_Chance.f a0 a1 a2 a3 = some (r1, r2, r3)) :
    Calls Try.prog 23 #[.int .i64 a0, .int .i64 a1, .int .i64 a2, .int .i64 a3] w fun e w' => e = .returned (.tuple #[.agg #[.int .i64 r1, .int .i64 r2], .int .i64 r3]) ∧ Below w.heap.size w w' := by
  have h := Option.some.inj h
  cases hb : caseB a0 a1 a2 a3
  · rw [hb] at h
    simp only [Bool.false_eq_true, if_false, Prod.mk.injEq] at h
    obtain ⟨rfl, rfl, rfl⟩ := h
    have hc := fun w => check_AtMost.calls a0 a1 a2 a3 0 3 w (by rw [check_AtMost.f, hb]; rfl)
    have HC := Lib.hid hc
    clear hc hb
    go_enter Try.func23, Try.ntmps23
    go_wp2_with fail
    refine (HC.out _).mono ?_
    rintro e w1 ⟨rfl, hb1⟩
    have c1 : w1.cell? ⟨w.heap.size, 0, none⟩ = some (.int .i64 0) := by rw [hb1.cell (by simp)]; simp
    have c2 : w1.cell? ⟨w.heap.size, 1, none⟩ = some (.int .i64 0) := by rw [hb1.cell (by simp)]; simp
    have f1 : w1.frozen? ⟨w.heap.size, 0, none⟩ = false := by rw [hb1.frozen (by simp)]; simp
    have f2 : w1.frozen? ⟨w.heap.size, 1, none⟩ = false := by rw [hb1.frozen (by simp)]; simp
    have HB1 := Lib.hid hb1
    clear hb1
    go_wp2
    refine bodyPost_ret (v := .tuple #[.agg #[.int .i64 0, .int .i64 0], .int .i64 3]) (by simp [results, Try.results23, go_sem, c1, c2]) rfl ⟨rfl, ?_⟩
    exact (((Below.refl _ _).alloc (Nat.le_refl _) _).trans (HB1.out.mono (by simp))).setCell (by simp) _ |>.setCell (by simp) _
  · rw [hb] at h
    simp only [if_true, Prod.mk.injEq] at h
    obtain ⟨rfl, rfl, rfl⟩ := h
    have hc := fun w => check_AtMost.calls a0 a1 a2 a3 (uptoN a0 a1 a2 a3) 0 w (by rw [check_AtMost.f, hb]; rfl)
    have HC := Lib.hid hc
    obtain ⟨p1, p2, p3, p4, p5, p6, p7, p8⟩ := case_in hb
    have hul := uptoN_le p3 p4 p7 p8
    have hun := uptoN_nat a0 a1 a2 a3
    have hpos := binom_pos a0.toNat a2.toNat (by omega)
    have hbb := binom_le50 a0.toNat a2.toNat (by omega)
    unfold gcdN
    clear hc hb
    obtain ⟨n, hn⟩ : ∃ n, n = (uptoN a0 a1 a2 a3).toNat := ⟨_, rfl⟩
    obtain ⟨m, hm⟩ : ∃ m, m = binom a0.toNat a2.toNat := ⟨_, rfl⟩
    rw [← hun] at HC ⊢
    rw [← hn] at HC hul ⊢
    rw [← hm] at hul hpos hbb ⊢
    have hix : ∀ w', (Instr.index 82 (.agg (cellsOf (rowF a0.toNat))) (.int .i64 a2)).run Try.prog w' = .ok (.int .i64 m) w' := fun w' => by
      obtain ⟨q, rfl⟩ := Int.eq_ofNat_of_zero_le p5
      rw [hm]
      exact run_index_agg w' row_under row_key row_cells (by omega) (cellsOf_get _ _ (by omega))
    clear hn hm hun
    go_enter Try.func23, Try.ntmps23
    go_wp2_with fail
    refine (HC.out _).mono ?_
    rintro e w1 ⟨rfl, hb1⟩
    have HB1 := Lib.hid hb1
    clear hb1
    go_wp2_with fail
    refine (choices_int a0 (by omega) p2 _).mono ?_
    rintro e w2 ⟨rfl, hb2⟩
    have hb3 := HB1.out.trans (hb2.mono HB1.out.size)
    have HB3 := Lib.hid hb3
    clear hb2 hb3
    go_wp2
    go_loopw [13, 14] (fun x y wr => ∃ a b : Nat, x = .int .i64 a ∧ y = .int .i64 b ∧ 0 < a ∧ a ≤ m ∧ b ≤ m ∧ Hid (Nat.gcd a b = Nat.gcd m n) ∧ Hid (Below (w.alloc (.cells #[.int .i64 0, .int .i64 0] 27)).heap.size (w.alloc (.cells #[.int .i64 0, .int .i64 0] 27)) wr)) (fun _ y _ => (intOf y).toNat)
    case atStart => exact ⟨m, n, rfl, rfl, hpos, Nat.le_refl _, hul, rfl, HB3.out⟩
    case round =>
      obtain ⟨a, b, rfl, rfl, ha, ham, hbm, HG, HW⟩ := hrel
      by_cases hb : 0 < b
      · have hbi : (0 : Int) < (b : Int) := by omega
        have e1 : (a : Int) % (b : Int) = ((a % b : Nat) : Int) := by omega
        have l1 : a % b < b := Nat.mod_lt _ hb
        have e0 : ((b : Int) == 0) = false := beq_eq_false_iff_ne.2 (by omega)
        have e2 : IntKind.i64.wrap ((a : Int).tmod (b : Int)) = ((a % b : Nat) : Int) := by rw [Int.tmod_eq_emod_of_nonneg (by omega), e1]; exact IntWalk.i64_in _ (by omega)
        have HE := Lib.hid e1
        clear e1
        go_wp2
        go_quiet (fail)
        clear e2
        go_wp2
        go_roundw
        case rel => exact ⟨b, a % b, rfl, congrArg (Value.int .i64) HE.out, hb, hbm, by omega, by show Nat.gcd b (a % b) = _; rw [← HG.out, Nat.gcd_comm a b, Nat.gcd_rec b a, Nat.gcd_comm], below_drewN HW.out nq⟩
        case measure => simp [intOf]; omega
      · have hb0 : b = 0 := by omega
        have hga : a = Nat.gcd m n := by rw [← HG.out, hb0, Nat.gcd_zero_right]
        have HGA := Lib.hid hga
        have hbi : ¬ (0 : Int) < (b : Int) := by omega
        clear hga hb0
        have e0 : ((a : Int) == 0) = false := beq_eq_false_iff_ne.2 (by omega)
        have d1 : (n : Int) / (a : Int) ≤ n := Int.ediv_le_self _ (by omega)
        have d2 : (m : Int) / (a : Int) ≤ m := Int.ediv_le_self _ (by omega)
        have d3 : 0 ≤ (n : Int) / (a : Int) := Int.ediv_nonneg (by omega) (by omega)
        have d4 : 0 ≤ (m : Int) / (a : Int) := Int.ediv_nonneg (by omega) (by omega)
        have c1 : wr.cell? ⟨w.heap.size, 0, none⟩ = some (.int .i64 0) := by rw [HW.out.cell (by simp)]; simp
        have c2 : wr.cell? ⟨w.heap.size, 1, none⟩ = some (.int .i64 0) := by rw [HW.out.cell (by simp)]; simp
        have f1 : wr.frozen? ⟨w.heap.size, 0, none⟩ = false := by rw [HW.out.frozen (by simp)]; simp
        have f2 : wr.frozen? ⟨w.heap.size, 1, none⟩ = false := by rw [HW.out.frozen (by simp)]; simp
        go_wp2
        go_region
        go_wp2
        refine bodyPost_ret (v := .tuple #[.agg #[.int .i64 ((n : Int) / (a : Int)), .int .i64 ((m : Int) / (a : Int))], .int .i64 0]) (by simp [results, Try.results23, go_sem, c1, c2]) rfl ⟨?_, ?_⟩
        · rw [HGA.out]; rfl
        · exact ((((Below.refl _ _).alloc (Nat.le_refl _) _).trans (HW.out.mono (by simp))).setCell (by simp) _ |>.setCell (by simp) _).drew

/-- the best number of wrong logs among the first ones, and how often -/
def likeN (a s f : Int) : Nat → Int × Int
  | 0 => (0, -1)
  | k + 1 => if (likeN a s f k).2 < justN a k s f then ((k : Int), justN a k s f) else likeN a s f k
theorem justN_bound {a w s f : Int} (ha : a ≤ 50) (h1 : 0 ≤ w) (h2 : w ≤ a) (h3 : 0 ≤ f) (h4 : f ≤ s) : 0 ≤ justN a w s f ∧ justN a w s f ≤ 1125899906842624 := by
  have h := term_le w.toNat (a - w).toNat s.toNat f.toNat (by omega)
  have hb := binom_le50 (w.toNat + (a - w).toNat) s.toNat (by omega)
  unfold justN
  rw [show (s - f).toNat = s.toNat - f.toNat by omega]
  omega
def check_Likely.f (a0 a1 a2 : Int) : Option (Int × Int) := some (if caseB a0 0 a1 a2 then ((likeN a0 a1 a2 (a0.toNat + 1)).1, 0) else (0, 3))
set_option maxHeartbeats 2000000 in
theorem check_Likely.calls (a0 a1 a2 r1 r2 : Int) (w : World) (h : check_Likely.f a0 a1 a2 = some (r1, r2)) :
    Calls Try.prog 33 #[.int .i64 a0, .int .i64 a1, .int .i64 a2] w fun e w' => e = .returned (.tuple #[.int .i64 r1, .int .i64 r2]) ∧ Below w.heap.size w w' := by
  have h := Option.some.inj h
  have hc := isCase_any a0 0 a1 a2 w
  cases hb : caseB a0 0 a1 a2
  · rw [hb] at h hc
    simp only [Bool.false_eq_true, if_false, Prod.mk.injEq] at h
    obtain ⟨rfl, rfl⟩ := h
    have HC := Lib.hid hc
    clear hc hb
    go_enter Try.func33, Try.ntmps33
    go_wp2_with fail
    refine HC.out.mono ?_
    rintro e w1 ⟨rfl, hb1⟩
    have HB1 := Lib.hid hb1
    clear hb1
    go_wp2
    go_ret2
    exact ⟨rfl, HB1.out⟩
  · rw [hb] at h hc
    simp only [if_true, Prod.mk.injEq] at h
    obtain ⟨hr1, rfl⟩ := h
    have HR := Lib.hid hr1
    have HC := Lib.hid hc
    obtain ⟨p1, p2, p3, p4, p5, p6, p7, p8⟩ := case_in hb
    clear hc hb hr1
    go_enter Try.func33, Try.ntmps33
    go_wp2_with fail
    refine HC.out.mono ?_
    rintro e w1 ⟨rfl, hb1⟩
    have HB1 := Lib.hid hb1
    clear hb1
    go_wp2
    go_loopw [8, 9, 19] (fun x y j wr => ∃ (k : Nat) (b m : Int), (k : Int) ≤ a0 + 1 ∧ j = .int .i64 k ∧ x = .int .i64 b ∧ y = .int .i64 m ∧ Hid (likeN a0 a1 a2 k = (b, m)) ∧ Hid (Below w.heap.size w wr)) (fun _ _ j _ => 60 - (intOf j).toNat)
    case atStart => exact ⟨0, 0, -1, by omega, rfl, rfl, rfl, rfl, HB1.out⟩
    case round =>
      obtain ⟨k, b, m, hk, rfl, rfl, rfl, HL, HW⟩ := hrel
      by_cases hlt : (k : Int) < a0 + 1
      · have hjb := justN_bound p2 (show (0 : Int) ≤ k by omega) (show (k : Int) ≤ a0 by omega) p7 p8
        have hstep : likeN a0 a1 a2 (k + 1) = if m < justN a0 k a1 a2 then ((k : Int), justN a0 k a1 a2) else (b, m) := by
          show (if (likeN a0 a1 a2 k).2 < justN a0 k a1 a2 then ((k : Int), justN a0 k a1 a2) else likeN a0 a1 a2 k) = _
          rw [HL.out]
        have HST := Lib.hid hstep
        have hkj := kinds_just (a := a0) (show (0 : Int) ≤ k by omega) (show (k : Int) ≤ a0 by omega) p7 p8
        have HKJ := Lib.hid hkj
        clear hstep hkj
        go_wp2_with fail
        refine (samples_int a0 k a1 p2 (by omega) (by omega) p5 p6 _).mono ?_
        rintro e w2 ⟨⟨bm, n, rfl, D, hown, htell⟩, hb2⟩
        have HB2 := Lib.hid (And.intro hb2 htell)
        clear hb2 htell
        go_wp2_with (first | (at_lookup; refine wpList_lookup_own_int _ rfl _ _ 85 rfl 88 2 .i64 kind_law Try.underlying85 Try.underlying2 (zero_int64 _) bm n D rfl hown _ _ rfl (kind_key (WalkArith.wf_i64 (by omega))) ?_; intro c hat hwc; have HA := Lib.hid hat; clear hat hwc))
        all_goals
          have h1 := HB2.out.2 a2 (WalkArith.wf_i64 (by omega))
          rw [HA.out, HKJ.out] at h1
          have h2 : c = justN a0 k a1 a2 := by simpa using h1
          go_roundw
        case rel =>
          have hgt : m < c := by assumption
          exact ⟨k + 1, k, c, by omega, by go_num, rfl, rfl, by show likeN a0 a1 a2 (k + 1) = _; rw [HST.out, ← h2, if_pos hgt], HW.out.trans (HB2.out.1.mono HW.out.size)⟩
        case measure => simp [intOf]; omega
        case rel =>
          have hgt : c ≤ m := by assumption
          exact ⟨k + 1, b, m, by omega, by go_num, rfl, rfl, by show likeN a0 a1 a2 (k + 1) = _; rw [HST.out, ← h2, if_neg (by omega)], HW.out.trans (HB2.out.1.mono HW.out.size)⟩
        case measure => simp [intOf]; omega
      · have hke : k = a0.toNat + 1 := by omega
        have HK := Lib.hid hke
        clear hke
        go_wp2
        go_ret2
        have h1 := HR.out
        rw [← HK.out, HL.out] at h1
        exact ⟨congrArg (fun z => Ending.returned (.tuple #[.int .i64 z, .int .i64 0])) h1, HW.out⟩
end Go.Proofs.Ytmgdidhhgdpobaa.Hand

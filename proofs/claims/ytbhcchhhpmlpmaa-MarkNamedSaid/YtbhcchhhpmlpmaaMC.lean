/- Texts of the claim, joined: HJoins, HAsked, HFamily, HFam, HTells, HPicks, HKeep, HLaw, HWorks. -/
import Derived.Test.YtbhcchhhpmlpmaaMB
import Derived.RangeFuncNested
import Derived.RangeFuncBound
import Derived.RangeFuncCalls
import Derived.RangeFuncLeaves
import Derived.RangeFuncFrom
import Derived.Shelf.Abstract
import Derived.Shelf.RegionOpen
import Derived.OwnWalkIn
import Derived.TacticsInMore
import Derived.LoopNIn
import Derived.LoopIn
import Derived.Stop.RegionWithIn
import Derived.Deep.RegionHeld3
import Derived.Deep.DeepCutAuto
import Derived.Test.YtbhcchhhpmlpmaaPrC1
/- Does a mark that is asked for join a family? And the register of an office with marks that are asked for. -/
namespace Go.Proofs.Ytbhcchhhpmlpmaa.Hand
set_option linter.unusedVariables false
set_option linter.unusedSimpArgs false
open Go.RowKit Go.Maps Go.Proofs.YtbhcchhhpmlpmaaW.PrintWords Go.Proofs.YtbhcchhhpmlpmaaW.PrintLast Go.Proofs.YtbhcchhhpmlpmaaW.PrintMore Go.Proofs.Ytbhcchhhpmlpmaa.PrA

/-- what the closure of joins looks at -/
def JoinAt (w : World) (B1 B2 B3 b : Nat) (a0 a1 : Int) (A : Option Addr) (c : Nat) (l : List Int) (Am : Option Addr) (cm : Nat) (marks : List Int) (i : Nat) : Prop :=
  w.cell? ⟨B1, 0, none⟩ = some (.pointer (some ⟨b, 0, none⟩)) ∧ w.cell? ⟨B2, 0, none⟩ = some (.slice Am marks.length cm) ∧ w.cell? ⟨B3, 0, none⟩ = some (.int .i64 (i : Int)) ∧ RegAt w b a0 a1 A c l ∧ Kd.C (Kd.int .i64) w Am marks.length marks
theorem join_below {w w' : World} {B1 B2 B3 b : Nat} {a0 a1 : Int} {A : Option Addr} {c : Nat} {l : List Int} {Am : Option Addr} {cm : Nat} {marks : List Int} {i : Nat} (h : JoinAt w B1 B2 B3 b a0 a1 A c l Am cm marks i) (hb : Below w.heap.size w w') : JoinAt w' B1 B2 B3 b a0 a1 A c l Am cm marks i :=
  ⟨(hb.cell (cell_size h.1)).trans h.1, (hb.cell (cell_size h.2.1)).trans h.2.1, (hb.cell (cell_size h.2.2.1)).trans h.2.2.1, reg_below h.2.2.2.1 hb (cell_size h.2.2.2.1.1), Kd.C_below h.2.2.2.2 hb⟩

set_option maxHeartbeats 2000000 in
theorem lit_join (j : Int) (k : Nat) (B1 B2 B3 b : Nat) (a0 a1 : Int) (A : Option Addr) (c : Nat) (l : List Int) (Am : Option Addr) (cm : Nat) (marks : List Int) (i : Nat) (w : World) (h : JoinAt w B1 B2 B3 b a0 a1 A c l Am cm marks i) (hi : i < marks.length) (hk : k < marks.length) :
    Calls Try.prog 89 #[.int .i64 j, .int .i64 (k : Int), .pointer (some ⟨B1, 0, none⟩), .pointer (some ⟨B2, 0, none⟩), .pointer (some ⟨B3, 0, none⟩)] w
      fun e w' => e = .returned (.bool (clashB a1 (rd marks i) (rd marks k))) ∧ Below w.heap.size w w' := by
  obtain ⟨h1, h2, h3, hR, hM⟩ := h
  have p0 : (0 : Int) ≤ (i : Int) := by omega
  have p1 : (i : Int) < (marks.length : Int) := by omega
  have q0 : (0 : Int) ≤ (k : Int) := by omega
  have q1 : (k : Int) < (marks.length : Int) := by omega
  obtain ⟨ad, rfl, x1⟩ := Kd.at_int hM (i : Int) p0 p1
  obtain ⟨ad', e', x2⟩ := Kd.at_int hM (k : Int) q0 q1
  cases e'
  rw [Int.toNat_natCast] at x1 x2
  obtain ⟨m1, hm1⟩ : ∃ m, m = rd marks (i : Int) := ⟨_, rfl⟩
  obtain ⟨m2, hm2⟩ : ∃ m, m = rd marks (k : Int) := ⟨_, rfl⟩
  rw [← hm1] at x1
  rw [← hm2] at x2
  rw [← hm1, ← hm2, clashB]
  have HF := Lib.hid (fun (X : Kw w.heap.size w) => clash_any b a0 a1 A c l m1 m2 X.1 (reg_below hR X.2 (cell_size hR.1)))
  have k1 := kept_cell' h1
  have k2 := kept_cell' h2
  have k3 := kept_cell' h3
  have y1 := kept_cell' x1
  have y2 := kept_cell' x2
  clear hm1 hm2 h1 h2 h3 x1 x2 hR hM
  go_enter Try.func89, Try.ntmps89
  go_wp2_with fail
  refine wp_region_kept w.heap.size w (by kernel_rfl) (by kernel_rfl) (Below.refl _ _) ?_
  repeat (go_big_quiet_step (first | with_reducible exact kept_calls _ (Nat.le_refl _) (HF.out _)))
  refine wpQuiet_nil ?_
  rintro _ ⟨X, rfl⟩
  go_wp2
  go_ret
  exact ⟨rfl, X.2⟩

/-- what first comes to -/
def fIdx (p : Int → Bool) (l : List Int) : Int := if l.any p then ((l.findIdx p : Nat) : Int) else -1
theorem fIdx_neg (p : Int → Bool) (l : List Int) : decide (fIdx p l < 0) = !l.any p := by
  unfold fIdx
  cases l.any p
  · rfl
  · simp
theorem fIdx_none {p : Int → Bool} {l : List Int} (h : l.any p = false) : fIdx p l = -1 := by rw [fIdx, h]; rfl
theorem fIdx_hit {p : Int → Bool} {l : List Int} {k : Nat} (hk : k < l.length) (h : (l.take k).any p = false) (hp : p l[k] = true) : fIdx p l = (k : Int) := by
  have h1 : l.any p = true := List.any_eq_true.2 ⟨l[k], List.getElem_mem hk, hp⟩
  rw [fIdx, h1, if_pos rfl]
  have : l.findIdx p = k := by
    rw [List.findIdx_eq hk]
    refine ⟨hp, fun j hj => ?_⟩
    have h2 := List.any_eq_false.1 h l[j] (by
      rw [List.mem_take_iff_getElem]
      exact ⟨j, by omega, rfl⟩)
    simpa using h2
  rw [this]
/-- does a mark clash with one of a family's? -/
def famClash (a1 : Int) (marks : List Int) (i : Nat) (x : Int) : Bool := clashB a1 (rd marks i) (rd marks x)

set_option maxHeartbeats 2000000 in
theorem first_join (B1 B2 B3 b : Nat) (a0 a1 : Int) (A : Option Addr) (c : Nat) (l : List Int) (Am : Option Addr) (cm : Nat) (marks : List Int) (i : Nat) (Af : Option Addr) (cf : Nat) (fam : List Int) (w : World)
    (h : JoinAt w B1 B2 B3 b a0 a1 A c l Am cm marks i) (hr : Kd.C (Kd.int .i64) w Af fam.length fam) (hc : fam.length ≤ cf) (hi : i < marks.length) (hf : ∀ x ∈ fam, 0 ≤ x ∧ x < (marks.length : Int)) :
    Calls Try.prog 86 #[.slice Af fam.length cf, .func (.func 89) #[] #[.pointer (some ⟨B1, 0, none⟩), .pointer (some ⟨B2, 0, none⟩), .pointer (some ⟨B3, 0, none⟩)]] w
      fun e w' => e = .returned (.int .i64 (fIdx (famClash a1 marks i) fam)) ∧ Below w.heap.size w w' := by
  have hm : fam.length ≤ 9223372036854775807 := hr.2.1
  have HR := Lib.hid hr
  have HL := Lib.hid (fun (j : Int) (x : Nat) (hx : x < marks.length) (W : World) (hb : Below w.heap.size w W) => lit_join j x B1 B2 B3 b a0 a1 A c l Am cm marks i W (join_below h hb) hi hx)
  have HFM := Lib.hid hf
  clear hr h hf
  go_enter Try.func86, Try.ntmps86
  go_wp2
  go_loopw [9] (fun i_ wr => ∃ k : Nat, k ≤ fam.length ∧ i_ = .int .i64 k ∧ Hid ((fam.take k).any (famClash a1 marks i) = false) ∧ Hid (Below w.heap.size w wr)) (fun i _ => fam.length - (intOf i).toNat)
  case atStart => exact ⟨0, Nat.zero_le _, rfl, Lib.hid (by simp), Lib.hid (Below.refl _ _)⟩
  case round =>
    obtain ⟨k, hk, rfl, HA, HB⟩ := hrel
    by_cases hlt : k < fam.length
    · obtain ⟨ad, e1, hx⟩ := Kd.at_int HR.out (k : Int) (by omega) (by omega)
      cases e1
      have hs := any_take_succ (famClash a1 marks i) fam k hlt
      have hh := fun (h1 : (fam.take k).any (famClash a1 marks i) = false) => fIdx_hit (p := famClash a1 marks i) hlt h1
      have hl : rd fam (k : Int) = fam[k] := by simp [rd, hlt]
      rw [hl, Int.toNat_natCast] at hx
      replace hx := (HB.out.cell (World.block_lt_of_cell? w _ hx)).trans hx
      have hin := HFM.out fam[k] (List.getElem_mem hlt)
      obtain ⟨x, hx'⟩ : ∃ x, x = fam[k] := ⟨_, rfl⟩
      rw [← hx'] at hx hs hh hin
      obtain ⟨n, rfl⟩ := Int.eq_ofNat_of_zero_le hin.1
      have HLX := Lib.hid (HL.out (k : Int) n (by omega) wr HB.out)
      obtain ⟨v, hv⟩ : ∃ v, v = famClash a1 marks i (n : Int) := ⟨_, rfl⟩
      rw [← hv] at hs hh
      have hv' : clashB a1 (rd marks i) (rd marks n) = v := hv.symm
      rw [hv'] at HLX
      have HS := Lib.hid hs
      have HH := Lib.hid hh
      clear hs hl hh hx' hv hv' hin
      go_wp2_with fail
      refine HLX.out.mono ?_
      rintro e w1 ⟨rfl, hw1⟩
      have HB1 := Lib.hid (HB.out.trans (hw1.mono HB.out.size))
      clear hw1 hx HLX
      cases v
      · go_wp2
        go_roundw
        case rel => exact ⟨k + 1, by omega, by go_num, Lib.hid (by rw [HS.out, HA.out]; rfl), HB1⟩
        case measure => simp [intOf]; omega
      · go_wp2
        go_ret
        exact ⟨(by rw [HH.out HA.out (by trivial)]; first | done | rfl), HB1.out⟩
    · go_wp2
      go_ret
      have := HA.out
      rw [List.take_of_length_le (by omega)] at this
      exact ⟨(by rw [fIdx_none this]; first | done | rfl), HB.out⟩

/-- does a mark that is asked for join a family? -/
def joinsB (a1 : Int) (l marks fam : List Int) (i : Nat) : Bool := !l.any (clashB a1 (rd marks i)) && !fam.any (famClash a1 marks i)

set_option maxHeartbeats 4000000 in
set_option maxRecDepth 100000 in
theorem joins_any (b : Nat) (a0 a1 : Int) (A : Option Addr) (c : Nat) (l : List Int) (Am : Option Addr) (cm : Nat) (marks : List Int) (i : Nat) (Af : Option Addr) (cf : Nat) (fam : List Int) (w : World)
    (hB : RegAt w b a0 a1 A c l) (hl : Kd.C (Kd.int .i64) w A l.length l) (hlc : l.length ≤ c) (hm : Kd.C (Kd.int .i64) w Am marks.length marks) (hmc : marks.length ≤ cm) (hr : Kd.C (Kd.int .i64) w Af fam.length fam) (hc : fam.length ≤ cf) (hi : i < marks.length) (hf : ∀ x ∈ fam, 0 ≤ x ∧ x < (marks.length : Int)) :
    Calls Try.prog 78 #[.pointer (some ⟨b, 0, none⟩), .slice Am marks.length cm, .slice Af fam.length cf, .int .i64 (i : Int)] w
      fun e w' => e = .returned (.bool (joinsB a1 l marks fam i)) ∧ Below w.heap.size w w' := by
  obtain ⟨W, hW⟩ : ∃ W, W = ((w.alloc (.cells #[.pointer (some ⟨b, 0, none⟩)] 63)).alloc (.cells #[.slice Am marks.length cm] 22)).alloc (.cells #[.int .i64 (i : Int)] 3) := ⟨_, rfl⟩
  have hbl : Below w.heap.size w W := by rw [hW]; exact (((Below.refl w.heap.size w).alloc (Nat.le_refl _) _).alloc (by simp) _).alloc (by simp; omega) _
  have hJ : JoinAt W w.heap.size (w.heap.size + 1) (w.heap.size + 2) b a0 a1 A c l Am cm marks i := ⟨by rw [hW]; simp [go_sem], by rw [hW]; simp [go_sem], by rw [hW]; simp [go_sem], reg_below hB hbl (cell_size hB.1), Kd.C_below hm hbl⟩
  have HBL := Lib.hid hbl
  obtain ⟨h1, h2, h3, hR, hM⟩ := hJ
  have p0 : (0 : Int) ≤ (i : Int) := by omega
  have p1 : (i : Int) < (marks.length : Int) := by omega
  have HF1 := Lib.hid (fun (X : Kw W.heap.size W) => isFree_any b a0 a1 A c l (rd marks i) X.1 (reg_below hR X.2 (cell_size hR.1)) (Kd.C_below (Kd.C_below hl hbl) X.2) hlc)
  have HF2 := Lib.hid (fun (X : Kw W.heap.size W) => first_join w.heap.size (w.heap.size + 1) (w.heap.size + 2) b a0 a1 A c l Am cm marks i Af cf fam X.1 (join_below ⟨h1, h2, h3, hR, hM⟩ X.2) (Kd.C_below (Kd.C_below hr hbl) X.2) hc hi hf)
  obtain ⟨ad, rfl, x1⟩ := Kd.at_int hM (i : Int) p0 p1
  rw [Int.toNat_natCast] at x1
  obtain ⟨m1, hm1⟩ : ∃ m, m = rd marks (i : Int) := ⟨_, rfl⟩
  have HJ : Hid (joinsB a1 l marks fam i = (!l.any (clashB a1 m1) && !fam.any (famClash a1 marks i))) := Lib.hid (by rw [joinsB, hm1])
  obtain ⟨J, hJ⟩ : ∃ J, J = joinsB a1 l marks fam i := ⟨_, rfl⟩
  rw [← hJ] at HJ ⊢
  rw [← hm1] at x1 HF1
  obtain ⟨R, hR1⟩ : ∃ R, R = fIdx (famClash a1 marks i) fam := ⟨_, rfl⟩
  have hR2 := fIdx_neg (famClash a1 marks i) fam
  rw [← hR1] at HF2 hR2
  have k1 := kept_cell' h1
  have k2 := kept_cell' h2
  have k3 := kept_cell' h3
  have y1 := kept_cell' x1
  clear hm1 x1 hR hM hB hl hm hr hf hbl hJ hR1
  cases hfr : l.any (clashB a1 m1)
  · rw [hfr, Bool.not_false] at HF1
    have HV : Hid (J = decide (R < 0)) := Lib.hid (by rw [HJ.out, hfr, hR2]; rfl)
    clear hfr HJ hR2
    go_enter Try.func78, Try.ntmps78
    go_wp2_with fail
    rw [← hW]
    clear hW h1 h2 h3
    refine wp_region_kept W.heap.size W (by kernel_rfl) (by kernel_rfl) (Below.refl _ _) ?_
    repeat (go_big_quiet_step (first | with_reducible exact kept_calls _ (Nat.le_refl _) (HF1.out _) | with_reducible exact kept_calls _ (Nat.le_refl _) (HF2.out _)))
    refine wpQuiet_nil ?_
    rintro _ ⟨X, rfl⟩
    go_wp2
    go_ret
    exact ⟨by rw [HV.out]; first | done | rfl, HBL.out.trans (X.2.mono HBL.out.size)⟩
  · rw [hfr, Bool.not_true] at HF1
    have HV : Hid (J = false) := Lib.hid (by rw [HJ.out, hfr]; rfl)
    clear hfr HJ hR2
    go_enter Try.func78, Try.ntmps78
    go_wp2_with fail
    rw [← hW]
    clear hW h1 h2 h3
    refine wp_region_kept W.heap.size W (by kernel_rfl) (by kernel_rfl) (Below.refl _ _) ?_
    repeat (go_big_quiet_step (first | with_reducible exact kept_calls _ (Nat.le_refl _) (HF1.out _) | with_reducible exact kept_calls _ (Nat.le_refl _) (HF2.out _)))
    refine wpQuiet_nil ?_
    rintro _ ⟨X, rfl⟩
    go_wp2
    go_ret
    exact ⟨by rw [HV.out]; first | done | rfl, HBL.out.trans (X.2.mono HBL.out.size)⟩
end Go.Proofs.Ytbhcchhhpmlpmaa.Hand

/- The register of an office with marks that are asked for, or its error. -/
namespace Go.Proofs.Ytbhcchhhpmlpmaa.Hand
set_option linter.unusedVariables false
set_option linter.unusedSimpArgs false
open Go.RowKit Go.Maps Go.Proofs.YtbhcchhhpmlpmaaW.PrintWords Go.Proofs.YtbhcchhhpmlpmaaW.PrintLast Go.Proofs.YtbhcchhhpmlpmaaW.PrintMore Go.Proofs.Ytbhcchhhpmlpmaa.PrA

/-- the error of asked -/
def askedN (a0 a1 : Int) (l marks : List Int) : Int :=
  if officeN a0 a1 l ≠ 0 then officeN a0 a1 l else if 12 < marks.length then 6 else if marks.any (outB 1 (allN a0)) then 3 else 0
theorem asked_zero {a0 a1 : Int} {l marks : List Int} (h : askedN a0 a1 l marks = 0) : officeN a0 a1 l = 0 ∧ marks.length ≤ 12 ∧ marks.any (outB 1 (allN a0)) = false := by
  unfold askedN at h
  split at h
  · rename_i h1; exact absurd h h1
  · rename_i h1
    split at h
    · cases h
    · rename_i h2
      split at h
      · cases h
      · rename_i h3
        exact ⟨by omega, by omega, by simpa using h3⟩

set_option maxHeartbeats 4000000 in
theorem asked_office (a0 a1 : Int) (A : Option Addr) (c : Nat) (l : List Int) (V : Value) (w : World) (hr : Kd.C (Kd.int .i64) w A l.length l) (hc : l.length ≤ c) (ho : officeN a0 a1 l ≠ 0) :
    Calls Try.prog 72 #[.agg #[.int .i64 a0, .int .i64 a1, .slice A l.length c], V] w
      fun e w' => e = .returned (.tuple #[.pointer none, .int .i64 (officeN a0 a1 l)]) ∧ Below w.heap.size w w' := by
  obtain ⟨W, hW⟩ : ∃ W, W = w.alloc (.cells #[.int .i64 a0, .int .i64 a1, .slice A l.length c] 24) := ⟨_, rfl⟩
  have hbl : Below w.heap.size w W := by rw [hW]; exact (Below.refl w.heap.size w).alloc (Nat.le_refl _) _
  have HC := Lib.hid (open_office a0 a1 A c l (.slice none 0 0) W (Kd.C_below hr hbl) hc ho)
  have HBL := Lib.hid hbl
  obtain ⟨E, hE⟩ : ∃ E, E = officeN a0 a1 l := ⟨_, rfl⟩
  rw [← hE] at ho HC ⊢
  have hd2 : (E != 0) = true := bne_iff_ne.2 ho
  clear hbl hE
  go_enter Try.func72, Try.ntmps72
  go_wp2_with fail
  rw [← hW]
  clear hW
  refine (HC.out).mono ?_
  rintro e w1 ⟨rfl, hw1⟩
  have HW1 := Lib.hid (HBL.out.trans (hw1.mono HBL.out.size))
  clear hw1 HBL HC
  go_wp2
  go_ret2
  exact ⟨rfl, HW1.out⟩

set_option maxHeartbeats 4000000 in
theorem asked_many (a0 a1 : Int) (A : Option Addr) (c : Nat) (l : List Int) (Am : Option Addr) (cm : Nat) (marks : List Int) (w : World) (hr : Kd.C (Kd.int .i64) w A l.length l) (hc : l.length ≤ c) (ho : officeN a0 a1 l = 0) (hm : 12 < marks.length) :
    Calls Try.prog 72 #[.agg #[.int .i64 a0, .int .i64 a1, .slice A l.length c], .slice Am marks.length cm] w
      fun e w' => e = .returned (.tuple #[.pointer none, .int .i64 6]) ∧ Below w.heap.size w w' := by
  obtain ⟨W, hW⟩ : ∃ W, W = w.alloc (.cells #[.int .i64 a0, .int .i64 a1, .slice A l.length c] 24) := ⟨_, rfl⟩
  have hbl : Below w.heap.size w W := by rw [hW]; exact (Below.refl w.heap.size w).alloc (Nat.le_refl _) _
  have HO := Lib.hid (open_none a0 a1 A c l W (Kd.C_below hr hbl) hc ho)
  have HBL := Lib.hid hbl
  have hm' : (12 : Int) < (marks.length : Int) := by omega
  clear hbl ho hr
  go_enter Try.func72, Try.ntmps72
  go_wp2_with fail
  rw [← hW]
  clear hW
  refine (HO.out).mono ?_
  rintro e w1 ⟨b, rfl, hR1, hb1, hw1⟩
  have HW1 := Lib.hid (HBL.out.trans (hw1.mono HBL.out.size))
  clear hR1 hb1 hw1 HBL HO
  go_wp2
  go_ret2
  exact ⟨rfl, HW1.out⟩

set_option maxHeartbeats 4000000 in
theorem asked_range (a0 a1 : Int) (A : Option Addr) (c : Nat) (l : List Int) (Am : Option Addr) (cm : Nat) (marks : List Int) (w : World) (hr : Kd.C (Kd.int .i64) w A l.length l) (hc : l.length ≤ c) (hmr : Kd.C (Kd.int .i64) w Am marks.length marks) (hmc : marks.length ≤ cm)
    (ho : officeN a0 a1 l = 0) (hm : marks.length ≤ 12) (hn : marks.any (outB 1 (allN a0)) = true) :
    Calls Try.prog 72 #[.agg #[.int .i64 a0, .int .i64 a1, .slice A l.length c], .slice Am marks.length cm] w
      fun e w' => e = .returned (.tuple #[.pointer none, .int .i64 3]) ∧ Below w.heap.size w w' := by
  have hz := office_zero ho
  obtain ⟨W, hW⟩ : ∃ W, W = w.alloc (.cells #[.int .i64 a0, .int .i64 a1, .slice A l.length c] 24) := ⟨_, rfl⟩
  have hbl : Below w.heap.size w W := by rw [hW]; exact (Below.refl w.heap.size w).alloc (Nat.le_refl _) _
  have hB : RegAt W w.heap.size a0 a1 A c l := by rw [hW]; refine ⟨?_, ?_, ?_⟩ <;> simp [go_sem]
  have HO := Lib.hid (open_none a0 a1 A c l W (Kd.C_below hr hbl) hc ho)
  have HALL := Lib.hid (fun (W' : World) (h : Kd.C (Kd.int .i64) W' A l.length l) => mark_all.calls a0 a1 A c l _ W' h hc (all_eq a0 a1 l hz.1 hz.2.1))
  have HWI := Lib.hid (fun (W' : World) (h : Kd.C (Kd.int .i64) W' Am marks.length marks) => mark_within.calls 1 (allN a0) Am cm marks _ W' h hmc rfl)
  rw [hn] at HWI
  have HBL := Lib.hid hbl
  have HB := Lib.hid hB
  have HR := Lib.hid hr
  have HM := Lib.hid hmr
  have hm' : ¬ (12 : Int) < (marks.length : Int) := by omega
  have HSZ := Lib.hid (cell_size hB.1)
  clear hbl hB hz ho hr hmr hn
  go_enter Try.func72, Try.ntmps72
  go_wp2_with fail
  rw [← hW]
  clear hW
  refine (HO.out).mono ?_
  rintro e w1 ⟨b, rfl, hR1, hb1, hw1⟩
  obtain ⟨c0, c1, c2⟩ := reg_below HB.out hw1 HSZ.out
  have HW1 := Lib.hid (HBL.out.trans (hw1.mono HBL.out.size))
  have HA1 := Lib.hid (Kd.C_below HR.out HW1.out)
  have HM1 := Lib.hid (Kd.C_below HM.out HW1.out)
  clear hR1 hb1 hw1 HO HBL HB HR HM HSZ
  go_wp2_with fail
  refine (HALL.out _ HA1.out).mono ?_
  rintro e w2 ⟨rfl, hw2⟩
  have HM2 := Lib.hid (Kd.C_below HM1.out hw2)
  have HW2 := Lib.hid (HW1.out.trans (hw2.mono HW1.out.size))
  clear hw2 c0 c1 c2 HALL HA1 HM1 HW1
  go_wp2_with fail
  refine (HWI.out _ HM2.out).mono ?_
  rintro e w3 ⟨rfl, hw3⟩
  have HW3 := Lib.hid (HW2.out.trans (hw3.mono HW2.out.size))
  clear hw3 HWI HW2 HM2
  go_wp2
  go_ret2
  exact ⟨rfl, HW3.out⟩

set_option maxHeartbeats 4000000 in
theorem asked_good (a0 a1 : Int) (A : Option Addr) (c : Nat) (l : List Int) (Am : Option Addr) (cm : Nat) (marks : List Int) (w : World) (hr : Kd.C (Kd.int .i64) w A l.length l) (hc : l.length ≤ c) (hmr : Kd.C (Kd.int .i64) w Am marks.length marks) (hmc : marks.length ≤ cm)
    (h0 : askedN a0 a1 l marks = 0) :
    Calls Try.prog 72 #[.agg #[.int .i64 a0, .int .i64 a1, .slice A l.length c], .slice Am marks.length cm] w
      fun e w' => ∃ b, e = .returned (.tuple #[.pointer (some ⟨b, 0, none⟩), .int .i64 0]) ∧ RegAt w' b a0 a1 A c l ∧ Below w.heap.size w w' := by
  obtain ⟨ho, hm, hn⟩ := asked_zero h0
  have hz := office_zero ho
  obtain ⟨W, hW⟩ : ∃ W, W = w.alloc (.cells #[.int .i64 a0, .int .i64 a1, .slice A l.length c] 24) := ⟨_, rfl⟩
  have hbl : Below w.heap.size w W := by rw [hW]; exact (Below.refl w.heap.size w).alloc (Nat.le_refl _) _
  have hB : RegAt W w.heap.size a0 a1 A c l := by rw [hW]; refine ⟨?_, ?_, ?_⟩ <;> simp [go_sem]
  have HO := Lib.hid (open_none a0 a1 A c l W (Kd.C_below hr hbl) hc ho)
  have HALL := Lib.hid (fun (W' : World) (h : Kd.C (Kd.int .i64) W' A l.length l) => mark_all.calls a0 a1 A c l _ W' h hc (all_eq a0 a1 l hz.1 hz.2.1))
  have HWI := Lib.hid (fun (W' : World) (h : Kd.C (Kd.int .i64) W' Am marks.length marks) => mark_within.calls 1 (allN a0) Am cm marks _ W' h hmc rfl)
  rw [hn] at HWI
  have HBL := Lib.hid hbl
  have HB := Lib.hid hB
  have HR := Lib.hid hr
  have HM := Lib.hid hmr
  have hm' : ¬ (12 : Int) < (marks.length : Int) := by omega
  have HSZ := Lib.hid (cell_size hB.1)
  clear hbl hB hz ho hr hmr hn h0
  go_enter Try.func72, Try.ntmps72
  go_wp2_with fail
  rw [← hW]
  clear hW
  refine (HO.out).mono ?_
  rintro e w1 ⟨b, rfl, hR1, hb1, hw1⟩
  obtain ⟨c0, c1, c2⟩ := reg_below HB.out hw1 HSZ.out
  have HW1 := Lib.hid (HBL.out.trans (hw1.mono HBL.out.size))
  have HA1 := Lib.hid (Kd.C_below HR.out HW1.out)
  have HM1 := Lib.hid (Kd.C_below HM.out HW1.out)
  have HR1 := Lib.hid hR1
  clear hR1 hb1 hw1 HO HBL HB HR HM HSZ
  go_wp2_with fail
  refine (HALL.out _ HA1.out).mono ?_
  rintro e w2 ⟨rfl, hw2⟩
  have HM2 := Lib.hid (Kd.C_below HM1.out hw2)
  have HW2 := Lib.hid (HW1.out.trans (hw2.mono HW1.out.size))
  have HR2 := Lib.hid (reg_below HR1.out hw2 (cell_size HR1.out.1))
  clear hw2 c0 c1 c2 HALL HA1 HM1 HW1 HR1
  go_wp2_with fail
  refine (HWI.out _ HM2.out).mono ?_
  rintro e w3 ⟨rfl, hw3⟩
  have HW3 := Lib.hid (HW2.out.trans (hw3.mono HW2.out.size))
  have HR3 := Lib.hid (reg_below HR2.out hw3 (cell_size HR2.out.1))
  clear hw3 HWI HW2 HM2 HR2
  go_wp2
  go_ret2
  exact ⟨b, rfl, HR3.out, HW3.out⟩

/-- asked with an error -/
theorem asked_bad (a0 a1 : Int) (A : Option Addr) (c : Nat) (l : List Int) (Am : Option Addr) (cm : Nat) (marks : List Int) (w : World) (hr : Kd.C (Kd.int .i64) w A l.length l) (hc : l.length ≤ c) (hmr : Kd.C (Kd.int .i64) w Am marks.length marks) (hmc : marks.length ≤ cm)
    (h0 : askedN a0 a1 l marks ≠ 0) :
    Calls Try.prog 72 #[.agg #[.int .i64 a0, .int .i64 a1, .slice A l.length c], .slice Am marks.length cm] w
      fun e w' => e = .returned (.tuple #[.pointer none, .int .i64 (askedN a0 a1 l marks)]) ∧ Below w.heap.size w w' := by
  by_cases ho : officeN a0 a1 l = 0
  · by_cases hm : 12 < marks.length
    · rw [show askedN a0 a1 l marks = 6 by simp [askedN, ho, hm]]
      exact asked_many a0 a1 A c l Am cm marks w hr hc ho hm
    · cases hn : marks.any (outB 1 (allN a0))
      · exact absurd (by simp only [askedN, ho, hm, hn]; rfl) h0
      · rw [show askedN a0 a1 l marks = 3 by simp only [askedN, ho, hm, hn]; rfl]
        exact asked_range a0 a1 A c l Am cm marks w hr hc hmr hmc ho (by omega) hn
  · rw [show askedN a0 a1 l marks = officeN a0 a1 l by simp [askedN, ho]]
    exact asked_office a0 a1 A c l _ w hr hc ho
end Go.Proofs.Ytbhcchhhpmlpmaa.Hand

/- CheckFamily and Family come to plain values. -/
namespace Go.Proofs.Ytbhcchhhpmlpmaa.Hand
set_option linter.unusedVariables false
set_option linter.unusedSimpArgs false
open Go.RowKit Go.Maps Go.Proofs.YtbhcchhhpmlpmaaW.PrintWords Go.Proofs.YtbhcchhhpmlpmaaW.PrintLast Go.Proofs.YtbhcchhhpmlpmaaW.PrintMore Go.Proofs.Ytbhcchhhpmlpmaa.PrA

/-- indexes from a next one on, each later than the one before it -/
def okFrom (n : Int) : Int → List Int → Bool
  | _, [] => true
  | nx, x :: l => !outB nx (n - 1) x && okFrom n (x + 1) l
theorem okFrom_mem (n : Int) : ∀ (l : List Int) (nx : Int), okFrom n nx l = true → ∀ x ∈ l, nx ≤ x ∧ x ≤ n - 1
  | [], _, _, x, hx => by simp at hx
  | y :: l, nx, h, x, hx => by
    simp only [okFrom, Bool.and_eq_true, Bool.not_eq_true'] at h
    have h1 := out_in h.1
    rcases List.mem_cons.1 hx with rfl | hx
    · exact h1
    · have := okFrom_mem n l (y + 1) h.2 x hx; omega
theorem drop_cons_rd (l : List Int) (k : Nat) (h : k < l.length) : l.drop k = rd l (k : Int) :: l.drop (k + 1) := by
  rw [List.drop_eq_getElem_cons h]; simp [rd, h]
/-- do the first so many of a family join those before them? -/
def famJoin (a1 : Int) (l marks fam : List Int) : Nat → Bool
  | 0 => true
  | k + 1 => famJoin a1 l marks fam k && joinsB a1 l marks (fam.take k) (rd fam k).toNat
theorem famJoin_false {a1 : Int} {l marks fam : List Int} {k : Nat} (h : joinsB a1 l marks (fam.take k) (rd fam k).toNat = false) : ∀ m, k < m → famJoin a1 l marks fam m = false
  | 0, hm => by omega
  | m + 1, hm => by
    by_cases e : k = m
    · subst e; rw [famJoin, h, Bool.and_false]
    · rw [famJoin, famJoin_false h m (by omega), Bool.false_and]
/-- the error of CheckFamily -/
def famN (a0 a1 : Int) (l marks fam : List Int) : Int :=
  if askedN a0 a1 l marks ≠ 0 then askedN a0 a1 l marks else if okFrom marks.length 0 fam then (if famJoin a1 l marks fam fam.length then 0 else 17) else 16

set_option maxHeartbeats 4000000 in
set_option maxRecDepth 100000 in
theorem checkFamily_good (a0 a1 : Int) (A : Option Addr) (c : Nat) (l : List Int) (Am : Option Addr) (cm : Nat) (marks : List Int) (Af : Option Addr) (cf : Nat) (fam : List Int) (w : World) (hr : Kd.C (Kd.int .i64) w A l.length l) (hc : l.length ≤ c)
    (hmr : Kd.C (Kd.int .i64) w Am marks.length marks) (hmc : marks.length ≤ cm) (hfr : Kd.C (Kd.int .i64) w Af fam.length fam) (hfc : fam.length ≤ cf) (h0 : askedN a0 a1 l marks = 0) :
    Calls Try.prog 39 #[.agg #[.int .i64 a0, .int .i64 a1, .slice A l.length c], .slice Am marks.length cm, .slice Af fam.length cf] w
      fun e w' => e = .returned (.int .i64 (if okFrom marks.length 0 fam then (if famJoin a1 l marks fam fam.length then 0 else 17) else 16)) ∧ Below w.heap.size w w' := by
  have hm63 : fam.length ≤ 9223372036854775807 := hfr.2.1
  obtain ⟨W, hW⟩ : ∃ W, W = w.alloc (.cells #[.int .i64 a0, .int .i64 a1, .slice A l.length c] 24) := ⟨_, rfl⟩
  have hbl : Below w.heap.size w W := by rw [hW]; exact (Below.refl w.heap.size w).alloc (Nat.le_refl _) _
  have HO := Lib.hid (asked_good a0 a1 A c l Am cm marks W (Kd.C_below hr hbl) hc (Kd.C_below hmr hbl) hmc h0)
  have HBL := Lib.hid hbl
  have HR := Lib.hid hr
  have HM := Lib.hid hmr
  have HF := Lib.hid hfr
  have hm12 : marks.length ≤ 12 := (asked_zero h0).2.1
  have HJ := Lib.hid (fun (b i k : Nat) (W : World) (hb : Below w.heap.size w W) (hB : RegAt W b a0 a1 A c l) (hk : k ≤ fam.length) (hi : i < marks.length) (hall : ∀ x ∈ fam, 0 ≤ x ∧ x < (marks.length : Int)) =>
    joins_any b a0 a1 A c l Am cm marks i Af cf (fam.take k) W hB (Kd.C_below hr hb) hc (Kd.C_below hmr hb) hmc (Kd.C_take (Kd.C_below hfr hb) hk) (by rw [List.length_take]; omega) hi (fun x hx => hall x (List.mem_of_mem_take hx)))
  have HWI := Lib.hid within1
  obtain ⟨R, hR⟩ : ∃ R : Int, R = (if okFrom marks.length 0 fam then (if famJoin a1 l marks fam fam.length then 0 else 17) else 16) := ⟨_, rfl⟩
  rw [← hR]
  have HRR := Lib.hid hR
  clear hbl hr hmr hfr h0 hR
  go_enter Try.func39, Try.ntmps39
  go_wp2_with fail
  rw [← hW]
  clear hW
  refine (HO.out).mono ?_
  rintro e w1 ⟨b, rfl, hR1, hw1⟩
  have HR1 := Lib.hid hR1
  have HW1 := Lib.hid (HBL.out.trans (hw1.mono HBL.out.size))
  clear hR1 hw1 HO HBL
  go_wp2_with fail
  go_loopw [9, 25] (fun nx i wr => ∃ (k : Nat) (n : Int), k ≤ fam.length ∧ i = .int .i64 k ∧ nx = .int .i64 n ∧ 0 ≤ n ∧ n ≤ 12 ∧ Hid (okFrom marks.length 0 fam = okFrom marks.length n (fam.drop k)) ∧ Hid (Below w1.heap.size w1 wr)) (fun _ i _ => fam.length - (intOf i).toNat)
  case atStart => exact ⟨0, 0, Nat.zero_le _, rfl, rfl, by omega, by omega, Lib.hid (by rw [List.drop_zero]), Lib.hid (Below.refl _ _)⟩
  case round =>
    obtain ⟨k, n, hk, rfl, rfl, n0, n1, HOK, HI⟩ := hrel
    by_cases hlt : k < fam.length
    · have hlt' : (k : Int) < (fam.length : Int) := by omega
      have p0 : (0 : Int) ≤ (k : Int) := by omega
      have hbb := HW1.out.trans (HI.out.mono HW1.out.size)
      obtain ⟨ad, rfl, hx⟩ := Kd.at_int (Kd.C_below HF.out hbb) (k : Int) p0 hlt'
      rw [Int.toNat_natCast] at hx
      have hdr := drop_cons_rd fam k hlt
      obtain ⟨x, hxx⟩ : ∃ x, x = rd fam (k : Int) := ⟨_, rfl⟩
      rw [← hxx] at hx hdr
      have hok : okFrom marks.length 0 fam = (!outB n ((marks.length : Int) - 1) x && okFrom marks.length (x + 1) (fam.drop (k + 1))) := by rw [HOK.out, hdr, okFrom]
      have HOK2 := Lib.hid hok
      have hwi := HWI.out n ((marks.length : Int) - 1) x wr
      have HWX := Lib.hid hwi
      clear hbb hdr hxx hok hwi
      cases hout : outB n ((marks.length : Int) - 1) x
      · rw [hout, Bool.not_false] at HWX HOK2
        rw [Bool.true_and] at HOK2
        have hin := out_in hout
        have x0 : 0 ≤ x := by omega
        have x1 : x ≤ 11 := by omega
        clear hout hin
        go_wp2_with fail
        refine HWX.out.mono ?_
        rintro e w2 ⟨rfl, hw2⟩
        have HI2 := Lib.hid (HI.out.trans (hw2.mono HI.out.size))
        clear hw2 hx HWX
        go_wp2
        go_roundw
        case rel => exact ⟨k + 1, x + 1, by omega, by go_num, rfl, by omega, by omega, HOK2, HI2⟩
        case measure => simp [intOf]; omega
      · rw [hout, Bool.not_true] at HWX HOK2
        rw [Bool.false_and] at HOK2
        clear hout
        go_wp2_with fail
        refine HWX.out.mono ?_
        rintro e w2 ⟨rfl, hw2⟩
        have HI2 := Lib.hid (HI.out.trans (hw2.mono HI.out.size))
        clear hw2 hx HWX
        go_wp2
        go_ret
        exact ⟨(by rw [HRR.out, HOK2.out]; first | done | rfl), HW1.out.trans (HI2.out.mono HW1.out.size)⟩
    · have hnl : ¬ ((k : Int) < (fam.length : Int)) := by omega
      have hok : okFrom marks.length 0 fam = true := by rw [HOK.out, show fam.drop k = [] by rw [List.drop_eq_nil_iff]; omega]; rfl
      have HOK2 := Lib.hid hok
      have hall := okFrom_mem marks.length fam 0 hok
      have HALL : Hid (∀ x ∈ fam, 0 ≤ x ∧ x < (marks.length : Int)) := Lib.hid (fun x hx => by have := hall x hx; omega)
      have HK : Hid (k = fam.length) := Lib.hid (by omega)
      clear hok hall
      obtain ⟨wo, rfl⟩ : ∃ wo : World, wo = wr := ⟨_, rfl⟩
      go_wp2_with fail
      go_loopw [42] (fun i wr => ∃ (j : Nat), j ≤ fam.length ∧ i = .int .i64 j ∧ Hid (famJoin a1 l marks fam j = true) ∧ Hid (Below w1.heap.size w1 wr)) (fun i _ => fam.length - (intOf i).toNat)
      case atStart => exact ⟨0, Nat.zero_le _, rfl, Lib.hid rfl, HI⟩
      case round =>
        obtain ⟨j, hj, rfl, HFJ, HJJ⟩ := hrel
        by_cases hlj : j < fam.length
        · have hlj' : (j : Int) < (fam.length : Int) := by omega
          have q0 : (0 : Int) ≤ (j : Int) := by omega
          have hjc : (j : Int) ≤ (cf : Int) := by omega
          have hbb := HW1.out.trans (HJJ.out.mono HW1.out.size)
          obtain ⟨ad, rfl, hx⟩ := Kd.at_int (Kd.C_below HF.out hbb) (j : Int) q0 hlj'
          rw [Int.toNat_natCast] at hx
          have hmem : rd fam (j : Int) ∈ fam := by simp [rd, hlj]
          have hin := HALL.out _ hmem
          obtain ⟨m, hm⟩ : ∃ m : Nat, rd fam (j : Int) = (m : Int) := ⟨(rd fam (j : Int)).toNat, by omega⟩
          rw [hm] at hx hin
          have hjn := HJ.out b m j wr hbb (reg_below HR1.out HJJ.out (cell_size HR1.out.1)) (by omega) (by omega) HALL.out
          rw [List.length_take, Nat.min_eq_left (by omega)] at hjn
          have hfj : famJoin a1 l marks fam (j + 1) = joinsB a1 l marks (fam.take j) m := by rw [famJoin, HFJ.out, Bool.true_and, hm, Int.toNat_natCast]
          have hff : joinsB a1 l marks (fam.take j) m = false → famJoin a1 l marks fam fam.length = false := fun h => famJoin_false (k := j) (by rw [hm, Int.toNat_natCast]; exact h) _ hlj
          obtain ⟨v, hv⟩ : ∃ v, v = joinsB a1 l marks (fam.take j) m := ⟨_, rfl⟩
          rw [← hv] at hjn hfj hff
          have HJN := Lib.hid hjn
          have HFJ2 := Lib.hid hfj
          have HFF := Lib.hid hff
          have HM' := Lib.hid hm
          clear hm hmem hin hjn hfj hff hv hbb
          go_wp2_with fail
          refine HJN.out.mono ?_
          rintro e w2 ⟨rfl, hw2⟩
          have HI2 := Lib.hid (HJJ.out.trans (hw2.mono HJJ.out.size))
          clear hw2 hx HJN
          cases v
          · go_wp2
            go_ret
            exact ⟨(by rw [HRR.out, HOK2.out, HFF.out (by trivial)]; first | done | rfl), HW1.out.trans (HI2.out.mono HW1.out.size)⟩
          · go_wp2
            go_roundw
            case rel => exact ⟨j + 1, by omega, by go_num, HFJ2, HI2⟩
            case measure => simp [intOf]; omega
        · have hnl : ¬ ((j : Int) < (fam.length : Int)) := by omega
          have hje : j = fam.length := by omega
          have HFJ3 : Hid (famJoin a1 l marks fam fam.length = true) := Lib.hid (by rw [← hje]; exact HFJ.out)
          clear hje
          go_wp2
          go_ret
          exact ⟨(by rw [HRR.out, HOK2.out, HFJ3.out]; first | done | rfl), HW1.out.trans (HJJ.out.mono HW1.out.size)⟩

set_option maxHeartbeats 4000000 in
theorem checkFamily_bad (a0 a1 : Int) (A : Option Addr) (c : Nat) (l : List Int) (Am : Option Addr) (cm : Nat) (marks : List Int) (V : Value) (w : World) (hr : Kd.C (Kd.int .i64) w A l.length l) (hc : l.length ≤ c)
    (hmr : Kd.C (Kd.int .i64) w Am marks.length marks) (hmc : marks.length ≤ cm) (h0 : askedN a0 a1 l marks ≠ 0) :
    Calls Try.prog 39 #[.agg #[.int .i64 a0, .int .i64 a1, .slice A l.length c], .slice Am marks.length cm, V] w
      fun e w' => e = .returned (.int .i64 (askedN a0 a1 l marks)) ∧ Below w.heap.size w w' := by
  obtain ⟨W, hW⟩ : ∃ W, W = w.alloc (.cells #[.int .i64 a0, .int .i64 a1, .slice A l.length c] 24) := ⟨_, rfl⟩
  have hbl : Below w.heap.size w W := by rw [hW]; exact (Below.refl w.heap.size w).alloc (Nat.le_refl _) _
  have HC := Lib.hid (asked_bad a0 a1 A c l Am cm marks W (Kd.C_below hr hbl) hc (Kd.C_below hmr hbl) hmc h0)
  have HBL := Lib.hid hbl
  obtain ⟨E, hE⟩ : ∃ E, E = askedN a0 a1 l marks := ⟨_, rfl⟩
  rw [← hE] at h0 HC ⊢
  have hd2 : (E != 0) = true := bne_iff_ne.2 h0
  clear hbl hE hr hmr
  go_enter Try.func39, Try.ntmps39
  go_wp2_with fail
  rw [← hW]
  clear hW
  refine (HC.out).mono ?_
  rintro e w1 ⟨rfl, hw1⟩
  have HW1 := Lib.hid (HBL.out.trans (hw1.mono HBL.out.size))
  clear hw1 HBL HC
  go_wp2
  go_ret
  exact ⟨rfl, HW1.out⟩

/-- what CheckFamily comes to -/
def mark_CheckFamily.f (a0_0 a0_1 : Int) (l0_2 l1 l2 : List Int) : Option Int := some (famN a0_0 a0_1 l0_2 l1 l2)
theorem mark_CheckFamily.calls (a0_0 : Int) (a0_1 : Int) (A0_2 : Option Addr) (c0_2 : Nat) (l0_2 : List Int) (A1 : Option Addr) (c1 : Nat) (l1 : List Int) (A2 : Option Addr) (c2 : Nat) (l2 : List Int) (r : Int) (w : World) (hr0_2 : Kd.C (Kd.int .i64) w A0_2 l0_2.length l0_2) (hc0_2 : l0_2.length ≤ c0_2)
    (hr1 : Kd.C (Kd.int .i64) w A1 l1.length l1) (hc1 : l1.length ≤ c1) (hr2 : Kd.C (Kd.int .i64) w A2 l2.length l2) (hc2 : l2.length ≤ c2) (h : mark_CheckFamily.f a0_0 a0_1 l0_2 l1 l2 = some r) :
    Calls Try.prog 39 #[.agg #[.int .i64 a0_0, .int .i64 a0_1, .slice A0_2 l0_2.length c0_2], .slice A1 l1.length c1, .slice A2 l2.length c2] w fun e w' => e = .returned (.int .i64 r) ∧ Below w.heap.size w w' := by
  have h' := Option.some.inj h
  clear h
  rw [famN] at h'
  by_cases h0 : askedN a0_0 a0_1 l0_2 l1 = 0
  · rw [if_neg (fun h => h h0)] at h'
    rw [← h']
    exact checkFamily_good a0_0 a0_1 A0_2 c0_2 l0_2 A1 c1 l1 A2 c2 l2 w hr0_2 hc0_2 hr1 hc1 hr2 hc2 h0
  · rw [if_pos h0] at h'
    rw [← h']
    exact checkFamily_bad a0_0 a0_1 A0_2 c0_2 l0_2 A1 c1 l1 _ w hr0_2 hc0_2 hr1 hc1 h0
end Go.Proofs.Ytbhcchhhpmlpmaa.Hand

/- Family comes to the first of the greatest families, by a recursion over indexes. -/
namespace Go.Proofs.Ytbhcchhhpmlpmaa.Hand
set_option linter.unusedVariables false
set_option linter.unusedSimpArgs false
open Go.RowKit Go.Maps Go.Proofs.YtbhcchhhpmlpmaaW.PrintWords Go.Proofs.YtbhcchhhpmlpmaaW.PrintLast Go.Proofs.YtbhcchhhpmlpmaaW.PrintMore Go.Proofs.Ytbhcchhhpmlpmaa.PrA

/-- the best family from an index on: what has begun, the best one so far -/
def famLoop (J : List Int → Nat → Bool) (n : Nat) : Nat → List Int → List Int → Nat → List Int
  | 0, _, best, _ => best
  | f + 1, begun, best, i =>
    if i < n ∧ best.length + i < begun.length + n then
      if J begun i then famLoop J n f begun (if best.length < (famLoop J n f (begun ++ [(i : Int)]) (begun ++ [(i : Int)]) (i + 1)).length then famLoop J n f (begun ++ [(i : Int)]) (begun ++ [(i : Int)]) (i + 1) else best) (i + 1)
      else famLoop J n f begun best (i + 1)
    else best
theorem famLoop_end {J : List Int → Nat → Bool} {n f i : Nat} {begun best : List Int} (h : ¬ (i < n ∧ best.length + i < begun.length + n)) : famLoop J n f begun best i = best := by
  cases f with
  | zero => rfl
  | succ f => rw [famLoop, if_neg h]
theorem famLoop_skip {J : List Int → Nat → Bool} {n i : Nat} {begun best : List Int} (h1 : i < n) (h2 : best.length + i < begun.length + n) (hJ : J begun i = false) : famLoop J n (n - i) begun best i = famLoop J n (n - (i + 1)) begun best (i + 1) := by
  obtain ⟨f, hf⟩ : ∃ f, n - i = f + 1 := ⟨n - i - 1, by omega⟩
  rw [hf, famLoop, if_pos ⟨h1, h2⟩, if_neg (by rw [hJ]; simp), show n - (i + 1) = f by omega]
theorem famLoop_take {J : List Int → Nat → Bool} {n i : Nat} {begun best r : List Int} (h1 : i < n) (h2 : best.length + i < begun.length + n) (hJ : J begun i = true) (hr : famLoop J n (n - (i + 1)) (begun ++ [(i : Int)]) (begun ++ [(i : Int)]) (i + 1) = r) :
    famLoop J n (n - i) begun best i = famLoop J n (n - (i + 1)) begun (if best.length < r.length then r else best) (i + 1) := by
  obtain ⟨f, hf⟩ : ∃ f, n - i = f + 1 := ⟨n - i - 1, by omega⟩
  have hf' : n - (i + 1) = f := by omega
  rw [hf'] at hr ⊢
  rw [hf, famLoop, if_pos ⟨h1, h2⟩, if_pos hJ, hr]

set_option maxHeartbeats 8000000 in
set_option maxRecDepth 100000 in
theorem family_any (b : Nat) (a0 a1 : Int) (A : Option Addr) (c : Nat) (l : List Int) (Am : Option Addr) (cm : Nat) (marks : List Int) (base : Nat) (hc : l.length ≤ c) (hmc : marks.length ≤ cm) (hm12 : marks.length ≤ 12) (d : Nat) :
    ∀ (fr : Nat) (begun : List Int) (vb : Value) (w : World), marks.length - fr ≤ d → fr ≤ marks.length → RegAt w b a0 a1 A c l → Kd.C (Kd.int .i64) w A l.length l → Kd.C (Kd.int .i64) w Am marks.length marks →
      Kd.R (Kd.int .i64) 3 w base (fun _ => True) vb begun → base ≤ w.heap.size → (∀ x ∈ begun, 0 ≤ x ∧ x < (marks.length : Int)) → begun.length ≤ fr →
      Calls Try.prog 73 #[.pointer (some ⟨b, 0, none⟩), .slice Am marks.length cm, vb, .int .i64 (fr : Int)] w
        fun e w' => ∃ v : Value, e = .returned v ∧ Kd.R (Kd.int .i64) 3 w' base (fun _ => True) v (famLoop (joinsB a1 l marks) marks.length (marks.length - fr) begun begun fr) ∧ Below w.heap.size w w' := by
  induction d using Nat.strongRecOn with
  | ind d ih =>
    intro fr begun vb w hd hfr hB hl hm hR hbase hall hlen
    have IH := Lib.hid ih
    have HB := Lib.hid hB
    have HL := Lib.hid hl
    have HM := Lib.hid hm
    have HRB := Lib.hid hR
    have HALL := Lib.hid hall
    have HD := Lib.hid hd
    obtain ⟨Ab, cb, rfl, hbc, hCb⟩ := Kd.R_reads hR
    have HCB := Lib.hid hCb
    have HJ := Lib.hid (fun (i : Nat) (W : World) (hb : Below w.heap.size w W) (hi : i < marks.length) =>
      joins_any b a0 a1 A c l Am cm marks i Ab cb begun W (reg_below hB hb (cell_size hB.1)) (Kd.C_below hl hb) hc (Kd.C_below hm hb) hmc (Kd.C_below hCb hb) hbc hi hall)
    clear ih hd hB hl hm hR hall hCb
    go_enter Try.func73, Try.ntmps73
    go_wp2_with fail
    go_loopw [9, 10] (fun v i wr => ∃ (k : Nat) (best : List Int), k ≤ marks.length ∧ fr ≤ k ∧ i = .int .i64 k ∧ Hid (Kd.R (Kd.int .i64) 3 wr base (fun _ => True) v best) ∧ Hid (famLoop (joinsB a1 l marks) marks.length (marks.length - fr) begun begun fr = famLoop (joinsB a1 l marks) marks.length (marks.length - k) begun best k) ∧ Hid (Below w.heap.size w wr)) (fun _ i _ => 60 - (intOf i).toNat)
    case atStart => exact ⟨fr, begun, hfr, Nat.le_refl _, rfl, HRB, Lib.hid rfl, Lib.hid (Below.refl _ _)⟩
    case round =>
      obtain ⟨i, best, hi, hfi, rfl, HBEST, HEQ, HI⟩ := hrel
      obtain ⟨Av, cv, rfl, hbv, -⟩ := Kd.R_reads HBEST.out
      clear hbv
      by_cases hlt : i < marks.length
      · have hlt' : (i : Int) < (marks.length : Int) := by omega
        by_cases hgt : best.length + i < begun.length + marks.length
        · have hgt' : (best.length : Int) < (begun.length : Int) + (marks.length : Int) - (i : Int) := by omega
          have hjn := HJ.out i wr HI.out hlt
          have hsk := famLoop_skip (J := joinsB a1 l marks) (begun := begun) (best := best) hlt hgt
          have htk := fun r => famLoop_take (J := joinsB a1 l marks) (begun := begun) (best := best) (r := r) hlt hgt
          obtain ⟨v, hv⟩ : ∃ v, v = joinsB a1 l marks begun i := ⟨_, rfl⟩
          rw [← hv] at hjn hsk htk
          have HJN := Lib.hid hjn
          have HSK := Lib.hid hsk
          have HTK := Lib.hid htk
          clear hjn hsk htk hv
          go_wp2_with fail
          refine HJN.out.mono ?_
          rintro e w2 ⟨rfl, hw2⟩
          have HI2 := Lib.hid (HI.out.trans (hw2.mono HI.out.size))
          have HBEST2 := Lib.hid (Kd.R_below HBEST.out hw2)
          clear hw2 HJN
          cases v
          · go_wp2
            go_roundw
            case rel => exact ⟨i + 1, best, by omega, by omega, by go_num, HBEST2, Lib.hid (by rw [HEQ.out, HSK.out (by trivial)]), HI2⟩
            case measure => simp [intOf]; omega
          · have hcb := Kd.C_below HCB.out HI2.out
            have hrb := Kd.R_below HRB.out HI2.out
            obtain ⟨A9, c9, e9, -, -, hnn, hrd⟩ : ∃ A9 c9, Value.slice Ab begun.length cb = .slice A9 begun.length c9 ∧ True ∧ True ∧ (A9 = none → begun.length = 0 ∧ c9 = 0) ∧ ReadsInt w2 .i64 A9 begun.length begun := by
              obtain ⟨A9, c9, e9, h1, h2, h3⟩ := own_out (Kd.own_of_R (enc := Value.int .i64) (h1 := fun _ => rfl) hrb)
              exact ⟨A9, c9, e9, trivial, trivial, h2, h3⟩
            cases e9
            have HNN := Lib.hid hnn
            have HRD := Lib.hid (hrd.allocS (.cells #[.int .i64 (i : Int)] 3))
            obtain ⟨i0, hinf, hz0, hz1, hz2⟩ := info_parts infoInt
            have hcut := fun W => run_cut3 (P := Try.prog) W 22 3 Try.underlying22 hinf Ab begun.length cb hbc
            have hb12 : begun.length ≤ 12 := by omega
            clear hcb hrb hnn hrd
            go_wp2_with (first | (at_builtin; refine wpList_append_grows _ rfl _ _ 22 rfl 3 i0 (.int .i64 0) 1 8 Try.underlying22 hinf hz0 hz1 hz2 rfl (by decide) Ab begun.length begun.length (nums .i64 begun) rfl (fun e => ⟨(HNN.out e).1, (HNN.out e).1⟩) (by simp [nums]) (fun b e => reads_cells HRD.out b e) ⟨w2.heap.size, 0, none⟩ 1 1 [.int .i64 (i : Int)] rfl rfl (cell_one_new _ _ _) (by simp [Value.oneCell']) (by omega) (by unfold maxLen; omega) (by omega) ?_; intro v5 w5 hown5 hgrow5; have H5 := Lib.hid (And.intro hown5 hgrow5); clear hown5 hgrow5))
            clear hcut
            have hb5 : Below w2.heap.size w2 w5 := ((Below.refl w2.heap.size w2).alloc (Nat.le_refl _) _).grown H5.out.2 (by simp) (fun j e => by cases e)
            have HI5 := Lib.hid (HI2.out.trans (hb5.mono HI2.out.size))
            have hown : Kd.R (Kd.int .i64) 3 w5 base (fun _ => True) v5 (begun ++ [(i : Int)]) := by
              refine Kd.R_of_own (enc := Value.int .i64) (h1 := fun _ => rfl) ?_ (fun _ _ => trivial)
              have h := own_weaken (base' := base) H5.out.1 (by have := HI2.out.size; simp; omega)
              rw [List.length_append, encs_append]
              exact h
            have HREC := Lib.hid (IH.out (marks.length - (i + 1)) (by have := HD.out; omega) (i + 1) (begun ++ [(i : Int)]) v5 w5 (Nat.le_refl _) (by omega) (reg_below HB.out HI5.out (cell_size HB.out.1)) (Kd.C_below HL.out HI5.out) (Kd.C_below HM.out HI5.out) hown (Nat.le_trans hbase HI5.out.size)
              (fun x hx => by
                rcases List.mem_append.1 hx with hx | hx
                · exact HALL.out x hx
                · obtain rfl : x = (i : Int) := by simpa using hx
                  omega) (by rw [List.length_append]; simp; omega))
            rw [show ((i + 1 : Nat) : Int) = (i : Int) + 1 by omega] at HREC
            have HBEST5 := Lib.hid (Kd.R_below HBEST2.out hb5)
            clear hown hb5
            refine HREC.out.mono ?_
            rintro e w3 ⟨v3, rfl, hr3, hw3⟩
            obtain ⟨A3, c3, rfl, hbv3, -⟩ := Kd.R_reads hr3
            obtain ⟨r, hrr⟩ : ∃ r, r = famLoop (joinsB a1 l marks) marks.length (marks.length - (i + 1)) (begun ++ [(i : Int)]) (begun ++ [(i : Int)]) (i + 1) := ⟨_, rfl⟩
            rw [← hrr] at hr3 ⊢
            have HT := Lib.hid (HTK.out r (by trivial) hrr.symm)
            have HR3 := Lib.hid hr3
            have HBEST3 := Lib.hid (Kd.R_below HBEST5.out hw3)
            have HI3 := Lib.hid (HI5.out.trans (hw3.mono HI5.out.size))
            clear hrr hr3 hw3 hbv3 HREC
            by_cases hlr : best.length < r.length
            · have hlr' : (best.length : Int) < (r.length : Int) := by omega
              go_wp2
              go_roundw
              case rel => exact ⟨i + 1, r, by omega, by omega, by go_num, HR3, Lib.hid (by rw [HEQ.out, HT.out, if_pos hlr]), HI3⟩
              case measure => simp [intOf]; omega
            · have hlr' : ¬ (best.length : Int) < (r.length : Int) := by omega
              go_wp2
              go_roundw
              case rel => exact ⟨i + 1, best, by omega, by omega, by go_num, HBEST3, Lib.hid (by rw [HEQ.out, HT.out, if_neg hlr]), HI3⟩
              case measure => simp [intOf]; omega
        · have hgt' : ¬ (best.length : Int) < (begun.length : Int) + (marks.length : Int) - (i : Int) := by omega
          have HE := Lib.hid (famLoop_end (J := joinsB a1 l marks) (n := marks.length) (f := marks.length - i) (i := i) (begun := begun) (best := best) (fun h => hgt h.2))
          go_wp2
          go_ret
          exact ⟨_, rfl, by rw [HEQ.out, HE.out]; exact HBEST.out, HI.out⟩
      · have hnl : ¬ (i : Int) < (marks.length : Int) := by omega
        have HE := Lib.hid (famLoop_end (J := joinsB a1 l marks) (n := marks.length) (f := marks.length - i) (i := i) (begun := begun) (best := best) (fun h => hlt h.1))
        go_wp2
        go_ret
        exact ⟨_, rfl, by rw [HEQ.out, HE.out]; exact HBEST.out, HI.out⟩

/-- the greatest family -/
def famV (a1 : Int) (l marks : List Int) : List Int := famLoop (joinsB a1 l marks) marks.length (marks.length - 0) [] [] 0

set_option maxHeartbeats 4000000 in
theorem fam_good (a0 a1 : Int) (A : Option Addr) (c : Nat) (l : List Int) (Am : Option Addr) (cm : Nat) (marks : List Int) (w : World) (hr : Kd.C (Kd.int .i64) w A l.length l) (hc : l.length ≤ c)
    (hmr : Kd.C (Kd.int .i64) w Am marks.length marks) (hmc : marks.length ≤ cm) (h0 : askedN a0 a1 l marks = 0) :
    Calls Try.prog 37 #[.agg #[.int .i64 a0, .int .i64 a1, .slice A l.length c], .slice Am marks.length cm] w
      fun e w' => ∃ v0_ : Value, e = .returned (.tuple #[v0_, .int .i64 0]) ∧ Kd.R (Kd.int .i64) 3 w' w.heap.size (fun _ => True) v0_ (famV a1 l marks) ∧ Below w.heap.size w w' := by
  obtain ⟨W, hW⟩ : ∃ W, W = w.alloc (.cells #[.int .i64 a0, .int .i64 a1, .slice A l.length c] 24) := ⟨_, rfl⟩
  have hbl : Below w.heap.size w W := by rw [hW]; exact (Below.refl w.heap.size w).alloc (Nat.le_refl _) _
  have HO := Lib.hid (asked_good a0 a1 A c l Am cm marks W (Kd.C_below hr hbl) hc (Kd.C_below hmr hbl) hmc h0)
  have HBL := Lib.hid hbl
  have hm12 : marks.length ≤ 12 := (asked_zero h0).2.1
  have HF := Lib.hid (fun (b : Nat) (W' : World) (hb : Below w.heap.size w W') (hB : RegAt W' b a0 a1 A c l) =>
    family_any b a0 a1 A c l Am cm marks w.heap.size hc hmc hm12 marks.length 0 [] (.slice none 0 0) W' (Nat.sub_le _ _) (Nat.zero_le _) hB (Kd.C_below hr hb) (Kd.C_below hmr hb) (Kd.R_nil _ _ _ _ _) hb.size (fun x hx => by cases hx) (Nat.le_refl _))
  obtain ⟨R, hR⟩ : ∃ R, R = famV a1 l marks := ⟨_, rfl⟩
  have hR' : famLoop (joinsB a1 l marks) marks.length (marks.length - 0) [] [] 0 = R := hR.symm
  rw [hR'] at HF
  rw [← hR]
  clear hbl hr hmr h0 hR hR'
  go_enter Try.func37, Try.ntmps37
  go_wp2_with fail
  rw [← hW]
  clear hW
  refine (HO.out).mono ?_
  rintro e w1 ⟨b, rfl, hR1, hw1⟩
  have HW1 := Lib.hid (HBL.out.trans (hw1.mono HBL.out.size))
  have HFF := Lib.hid (HF.out b w1 HW1.out hR1)
  clear hR1 hw1 HO HBL HF
  go_wp2_with fail
  refine (HFF.out).mono ?_
  rintro e w2 ⟨v, rfl, hRv, hw2⟩
  have HRV := Lib.hid hRv
  have HW2 := Lib.hid (HW1.out.trans (hw2.mono HW1.out.size))
  clear hRv hw2 HFF
  go_wp2
  go_ret2
  exact ⟨_, rfl, HRV.out, HW2.out⟩

set_option maxHeartbeats 4000000 in
theorem fam_bad (a0 a1 : Int) (A : Option Addr) (c : Nat) (l : List Int) (Am : Option Addr) (cm : Nat) (marks : List Int) (w : World) (hr : Kd.C (Kd.int .i64) w A l.length l) (hc : l.length ≤ c)
    (hmr : Kd.C (Kd.int .i64) w Am marks.length marks) (hmc : marks.length ≤ cm) (h0 : askedN a0 a1 l marks ≠ 0) :
    Calls Try.prog 37 #[.agg #[.int .i64 a0, .int .i64 a1, .slice A l.length c], .slice Am marks.length cm] w
      fun e w' => e = .returned (.tuple #[.slice none 0 0, .int .i64 (askedN a0 a1 l marks)]) ∧ Below w.heap.size w w' := by
  obtain ⟨W, hW⟩ : ∃ W, W = w.alloc (.cells #[.int .i64 a0, .int .i64 a1, .slice A l.length c] 24) := ⟨_, rfl⟩
  have hbl : Below w.heap.size w W := by rw [hW]; exact (Below.refl w.heap.size w).alloc (Nat.le_refl _) _
  have HC := Lib.hid (asked_bad a0 a1 A c l Am cm marks W (Kd.C_below hr hbl) hc (Kd.C_below hmr hbl) hmc h0)
  have HBL := Lib.hid hbl
  obtain ⟨E, hE⟩ : ∃ E, E = askedN a0 a1 l marks := ⟨_, rfl⟩
  rw [← hE] at h0 HC ⊢
  have hd2 : (E != 0) = true := bne_iff_ne.2 h0
  clear hbl hE hr hmr
  go_enter Try.func37, Try.ntmps37
  go_wp2_with fail
  rw [← hW]
  clear hW
  refine (HC.out).mono ?_
  rintro e w1 ⟨rfl, hw1⟩
  have HW1 := Lib.hid (HBL.out.trans (hw1.mono HBL.out.size))
  clear hw1 HBL HC
  go_wp2
  go_ret2
  exact ⟨rfl, HW1.out⟩

/-- what Family comes to -/
def mark_Family.f (a0_0 a0_1 : Int) (l0_2 l1 : List Int) : Option (List Int × Int) := some (if askedN a0_0 a0_1 l0_2 l1 ≠ 0 then ([], askedN a0_0 a0_1 l0_2 l1) else (famV a0_1 l0_2 l1, 0))
theorem mark_Family.calls (a0_0 : Int) (a0_1 : Int) (A0_2 : Option Addr) (c0_2 : Nat) (l0_2 : List Int) (A1 : Option Addr) (c1 : Nat) (l1 : List Int) (r1 : List Int) (r2 : Int) (w : World) (hr0_2 : Kd.C (Kd.int .i64) w A0_2 l0_2.length l0_2) (hc0_2 : l0_2.length ≤ c0_2)
    (hr1 : Kd.C (Kd.int .i64) w A1 l1.length l1) (hc1 : l1.length ≤ c1) (h : mark_Family.f a0_0 a0_1 l0_2 l1 = some (r1, r2)) :
    Calls Try.prog 37 #[.agg #[.int .i64 a0_0, .int .i64 a0_1, .slice A0_2 l0_2.length c0_2], .slice A1 l1.length c1] w fun e w' => ∃ v0_ : Value, e = .returned (.tuple #[v0_, .int .i64 r2]) ∧ Kd.R (Kd.int .i64) 3 w' w.heap.size (fun _ => True) v0_ r1 ∧ Below w.heap.size w w' := by
  have h' := Option.some.inj h
  clear h
  by_cases h0 : askedN a0_0 a0_1 l0_2 l1 = 0
  · rw [if_neg (fun h => h h0)] at h'
    cases h'
    exact fam_good a0_0 a0_1 A0_2 c0_2 l0_2 A1 c1 l1 w hr0_2 hc0_2 hr1 hc1 h0
  · rw [if_pos h0] at h'
    cases h'
    exact (fam_bad a0_0 a0_1 A0_2 c0_2 l0_2 A1 c1 l1 w hr0_2 hc0_2 hr1 hc1 h0).mono fun _ _ h => ⟨_, h.1, Kd.R_nil _ _ _ _ _, h.2⟩
end Go.Proofs.Ytbhcchhhpmlpmaa.Hand

/- Do strokes tell an owner? The function first with the closure of tells. -/
namespace Go.Proofs.Ytbhcchhhpmlpmaa.Hand
set_option linter.unusedVariables false
set_option linter.unusedSimpArgs false
open Go.RowKit Go.Maps Go.Proofs.YtbhcchhhpmlpmaaW.PrintWords Go.Proofs.YtbhcchhhpmlpmaaW.PrintLast Go.Proofs.YtbhcchhhpmlpmaaW.PrintMore Go.Proofs.Ytbhcchhhpmlpmaa.PrA

/-- are all strokes of a set in the mark of another owner? -/
def tellC (l : List Int) (ow set : Int) (k : Nat) : Bool := ((k : Int) != ow) && (bits .andNot .i64 set (rd l k) == 0)
/-- do strokes tell an owner? -/
def tellsB (l : List Int) (ow set : Int) : Bool := !(List.range l.length).any (tellC l ow set)
theorem range_any_succ (p : Nat → Bool) (k : Nat) : (List.range (k + 1)).any p = ((List.range k).any p || p k) := by
  rw [List.range_succ, List.any_append, List.any_cons, List.any_nil, Bool.or_false]
theorem range_any_hit (p : Nat → Bool) {k n : Nat} (h : k < n) (hp : p k = true) : (List.range n).any p = true :=
  List.any_eq_true.2 ⟨k, List.mem_range.2 h, hp⟩

set_option maxHeartbeats 1000000 in
theorem lit_tell (k : Nat) (x : Int) (B1 B2 : Nat) (ow set : Int) (w : World) (h1 : w.cell? ⟨B1, 0, none⟩ = some (.int .i64 ow)) (h2 : w.cell? ⟨B2, 0, none⟩ = some (.int .i64 set)) :
    Calls Try.prog 87 #[.int .i64 (k : Int), .int .i64 x, .pointer (some ⟨B1, 0, none⟩), .pointer (some ⟨B2, 0, none⟩)] w
      fun e w' => e = .returned (.bool (((k : Int) != ow) && (bits .andNot .i64 set x == 0))) ∧ w = w' := by
  cases g : ((k : Int) != ow)
  · go_enter Try.func87, Try.ntmps87
    go_wp2
    go_ret
    exact ⟨rfl, rfl⟩
  · obtain ⟨z, hz⟩ : ∃ z, z = bits .andNot .i64 set x := ⟨_, rfl⟩
    rw [← hz]
    have HZ := Lib.hid hz
    clear hz
    go_enter Try.func87, Try.ntmps87
    go_wp2
    go_ret
    exact ⟨(by rw [HZ.out]; first | done | rfl), rfl⟩

set_option maxHeartbeats 2000000 in
theorem first_tell (B1 B2 : Nat) (A : Option Addr) (c : Nat) (l : List Int) (ow set : Int) (w : World) (h1 : w.cell? ⟨B1, 0, none⟩ = some (.int .i64 ow)) (h2 : w.cell? ⟨B2, 0, none⟩ = some (.int .i64 set)) (hr : Kd.C (Kd.int .i64) w A l.length l) (hc : l.length ≤ c) :
    Calls Try.prog 86 #[.slice A l.length c, .func (.func 87) #[] #[.pointer (some ⟨B1, 0, none⟩), .pointer (some ⟨B2, 0, none⟩)]] w
      fun e w' => (∃ r : Int, e = .returned (.int .i64 r) ∧ decide (r < 0) = tellsB l ow set) ∧ w = w' := by
  have hm : l.length ≤ 9223372036854775807 := hr.2.1
  have HR := Lib.hid hr
  have HL := Lib.hid (fun (k : Nat) (x : Int) => lit_tell k x B1 B2 ow set w h1 h2)
  clear hr h1 h2
  go_enter Try.func86, Try.ntmps86
  go_wp2
  go_loop [9] (fun i => ∃ k : Nat, k ≤ l.length ∧ i = .int .i64 k ∧ Hid ((List.range k).any (tellC l ow set) = false)) (fun i => l.length - (intOf i).toNat)
  case atStart => exact ⟨0, Nat.zero_le _, rfl, Lib.hid (by simp)⟩
  case round =>
    obtain ⟨k, hk, rfl, HA⟩ := hrel
    by_cases hlt : k < l.length
    · obtain ⟨ad, e1, hx⟩ := Kd.at_int HR.out (k : Int) (by omega) (by omega)
      cases e1
      rw [Int.toNat_natCast] at hx
      have hs := range_any_succ (tellC l ow set) k
      have hh := range_any_hit (tellC l ow set) hlt
      have hlx := HL.out k (rd l (k : Int))
      obtain ⟨v, hv⟩ : ∃ v, v = tellC l ow set k := ⟨_, rfl⟩
      rw [← hv] at hs hh
      have hv' : (((k : Int) != ow) && (bits .andNot .i64 set (rd l k) == 0)) = v := hv.symm
      rw [hv'] at hlx
      obtain ⟨x, hx'⟩ : ∃ x, x = rd l (k : Int) := ⟨_, rfl⟩
      rw [← hx'] at hx hlx
      have HLX := Lib.hid hlx
      have HS := Lib.hid hs
      have HH := Lib.hid hh
      clear hs hh hx' hv hv' hlx
      go_wp2_with fail
      refine HLX.out.mono ?_
      rintro e w1 ⟨rfl, rfl⟩
      clear HLX
      cases v
      · go_wp2
        go_round
        case rel => exact ⟨k + 1, by omega, by go_num, Lib.hid (by rw [HS.out, HA.out]; rfl)⟩
        case measure => simp [intOf]; omega
      · go_wp2
        go_ret
        exact ⟨⟨k, rfl, by rw [tellsB, HH.out (by trivial)]; simp⟩, rfl⟩
    · go_wp2
      go_ret
      refine ⟨⟨-1, rfl, ?_⟩, rfl⟩
      have hke : k = l.length := by omega
      have := HA.out
      rw [hke] at this
      rw [tellsB, this]; rfl

set_option maxHeartbeats 2000000 in
theorem tells_any (b : Nat) (a0 a1 : Int) (A : Option Addr) (c : Nat) (l : List Int) (ow set : Int) (w : World) (hB : RegAt w b a0 a1 A c l) (hr : Kd.C (Kd.int .i64) w A l.length l) (hc : l.length ≤ c) :
    Calls Try.prog 69 #[.pointer (some ⟨b, 0, none⟩), .int .i64 ow, .int .i64 set] w
      fun e w' => e = .returned (.bool (tellsB l ow set)) ∧ Below w.heap.size w w' := by
  obtain ⟨W, hW⟩ : ∃ W, W = (w.alloc (.cells #[.int .i64 ow] 3)).alloc (.cells #[.int .i64 set] 3) := ⟨_, rfl⟩
  have hbl : Below w.heap.size w W := by rw [hW]; exact ((Below.refl w.heap.size w).alloc (Nat.le_refl _) _).alloc (by simp) _
  have HF := Lib.hid (first_tell w.heap.size (w.heap.size + 1) A c l ow set W (by rw [hW]; simp [go_sem]) (by rw [hW]; simp [go_sem]) (Kd.C_below hr hbl) hc)
  have HBL := Lib.hid hbl
  obtain ⟨e0, e1, e2⟩ := reg_below hB hbl (cell_size hB.1)
  clear hbl hr hB
  rw [hW] at e2
  obtain ⟨v, hv⟩ : ∃ v, v = tellsB l ow set := ⟨_, rfl⟩
  rw [← hv] at HF ⊢
  clear hv
  go_enter Try.func69, Try.ntmps69
  go_wp2_with fail
  rw [← hW]
  clear hW e0 e1 e2
  refine HF.out.mono ?_
  rintro e w1 ⟨⟨r, rfl, hd⟩, rfl⟩
  have HD := Lib.hid hd
  clear hd
  go_wp2
  go_ret
  exact ⟨(by rw [← HD.out]; rfl), HBL.out⟩
end Go.Proofs.Ytbhcchhhpmlpmaa.Hand

/- The iterator over all sets of strokes of a mark has its contract. -/
namespace Go.Proofs.Ytbhcchhhpmlpmaa.Hand
set_option linter.unusedVariables false
set_option linter.unusedSimpArgs false
open Go.RowKit Go.Shelf Go.Maps Go.Proofs.YtbhcchhhpmlpmaaW.PrintWords Go.Proofs.YtbhcchhhpmlpmaaW.PrintLast Go.Proofs.YtbhcchhhpmlpmaaW.PrintMore Go.Proofs.Ytbhcchhhpmlpmaa.PrA
attribute [local go_sem] Oper.semAt_some

theorem wpIn_scope_wide {P : Program} {n : Nat} {c : Code} {Q : Exit → Act → World → Prop} {a : Act} {w : World} (h : c.wpIn Fence.wide n P (Exit.noGoto Q) a w) : (Code.scope c).wpIn Fence.wide n P Q a w :=
  wpIn_wide.2 (wp_scope_straight (wpIn_wide.1 h))

theorem and_bit (m k : Nat) (hm : m < 1024) : (bits .and .i64 ((m : Int) / 2 ^ k) 1 == 0) = !m.testBit k := by
  have e : (m : Int) / 2 ^ k = ((m / 2 ^ k : Nat) : Int) := by simp
  have hl : m / 2 ^ k < 1024 := Nat.lt_of_le_of_lt (Nat.div_le_self _ _) hm
  rw [e, show (1 : Int) = ((1 : Nat) : Int) from rfl, i64_and_nat _ _ hl (by decide), Nat.and_one_is_mod]
  rw [Nat.testBit_eq_decide_div_mod_eq]
  by_cases h : m / 2 ^ k % 2 = 1
  · rw [h]; rfl
  · rw [show m / 2 ^ k % 2 = 0 by omega]; rfl

theorem shl_nat (m k : Nat) (hm : m < 1024) : IntKind.i64.wrap ((m : Int) / 2 ^ (k + 1) * 2 ^ (k + 1)) = ((m >>> (k + 1) <<< (k + 1) : Nat) : Int) := by
  have h2 : (m : Int) / 2 ^ (k + 1) * 2 ^ (k + 1) = ((m / 2 ^ (k + 1) * 2 ^ (k + 1) : Nat) : Int) := by simp
  have h3 := Nat.div_mul_le_self m (2 ^ (k + 1))
  rw [h2, Nat.shiftLeft_eq, Nat.shiftRight_eq_div_pow]
  obtain ⟨z, hz⟩ : ∃ z, z = m / 2 ^ (k + 1) * 2 ^ (k + 1) := ⟨_, rfl⟩
  rw [← hz] at h3 ⊢
  exact IntWalk.i64_in _ (by omega)
theorem one_nat (k : Nat) (hk : k < 10) : IntKind.i64.wrap ((2 : Int) ^ k) = ((1 <<< k : Nat) : Int) := by
  have h1 : 2 ^ k ≤ 2 ^ 10 := Nat.pow_le_pow_right (by decide) (by omega)
  have h2 : (2 : Int) ^ k = ((2 ^ k : Nat) : Int) := by simp
  rw [h2, Nat.shiftLeft_eq, Nat.one_mul]
  obtain ⟨z, hz⟩ : ∃ z, z = 2 ^ k := ⟨_, rfl⟩
  rw [← hz] at h1 ⊢
  exact IntWalk.i64_in _ (by omega)
theorem one_lt (k : Nat) (hk : k < 10) : 1 <<< k < 1024 := by
  rw [Nat.shiftLeft_eq, Nat.one_mul]
  have h1 : 2 ^ k ≤ 2 ^ 9 := Nat.pow_le_pow_right (by decide) (by omega)
  omega
theorem i64_or_nat (a b : Nat) (ha : a < 1024) (hb : b < 1024) : bits .or .i64 (a : Int) (b : Int) = ((a ||| b : Nat) : Int) := by
  have hx : a ||| b < 2 ^ 10 := Nat.or_lt_two_pow (by omega) (by omega)
  show IntKind.i64.wrap ((BitVec.ofInt 64 (a : Int) ||| BitVec.ofInt 64 (b : Int)).toNat : Int) = _
  have e1 : (BitVec.ofInt 64 (a : Int)).toNat = a := by rw [BitVec.toNat_ofInt]; omega
  have e2 : (BitVec.ofInt 64 (b : Int)).toNat = b := by rw [BitVec.toNat_ofInt]; omega
  rw [BitVec.toNat_or, e1, e2]
  exact IntWalk.i64_in _ (by omega)
theorem cut_le (m k : Nat) : m >>> (k + 1) <<< (k + 1) ≤ m := by
  rw [Nat.shiftLeft_eq, Nat.shiftRight_eq_div_pow]
  exact Nat.div_mul_le_self _ _

theorem two_ways {e : Ending} {A B : Prop} (h : (e = .returned (.bool true) ∧ A) ∨ (e = .returned (.bool false) ∧ B)) : ∃ v : Bool, e = .returned (.bool v) ∧ Hid ((v = true ∧ A) ∨ (v = false ∧ B)) := by
  rcases h with ⟨he, ha⟩ | ⟨he, hb⟩
  · exact ⟨true, he, Lib.hid (.inl ⟨rfl, ha⟩)⟩
  · exact ⟨false, he, Lib.hid (.inr ⟨rfl, hb⟩)⟩

/-- the sets that a stroke begins -/
def pickAt (f : Nat → Nat → List Nat) (m set i : Nat) : List Nat := if m.testBit i then f (m >>> (i + 1) <<< (i + 1)) (set ||| 1 <<< i) else []
def pickTo (f : Nat → Nat → List Nat) (m set : Nat) : Nat → List Nat
  | 0 => []
  | i + 1 => pickTo f m set i ++ pickAt f m set i
/-- the sets that have so many strokes of a mark more than one has -/
def pickL : Nat → Nat → Nat → List Nat
  | 0, _, set => [set]
  | k + 1, m, set => pickTo (pickL k) m set 10
theorem pickTo_prefix (f : Nat → Nat → List Nat) (m set i j : Nat) (h : i ≤ j) : pickTo f m set i <+: pickTo f m set j := by
  induction j with
  | zero => obtain rfl : i = 0 := by omega
            exact List.prefix_refl _
  | succ j ih =>
    by_cases e : i = j + 1
    · subst e; exact List.prefix_refl _
    · exact (ih (by omega)).trans (List.prefix_append _ _)

set_option maxRecDepth 100000 in
set_option maxHeartbeats 4000000 in
theorem pick_in (l n₀ N : Nat) (J Jx : List Nat → World → Prop) (hY : ∀ (m : Nat) (pre : List Nat) (x : Nat) (W : World), J pre W → pre.length < N → YieldAt Fence.wide m Try.prog l #[.int .i64 (x : Int)] W fun e W' =>
      (e = .returned (.bool true) ∧ J (pre ++ [x]) W' ∧ Below n₀ W W') ∨ (e = .returned (.bool false) ∧ Jx (pre ++ [x]) W')) (hJd : ∀ pre W, J pre W → J pre W.drew) (many : Nat) :
    ∀ (n m set : Nat) (pre : List Nat) (W : World), many ≤ 10 → m < 1024 → set < 1024 → J pre W → pre.length + (pickL many m set).length ≤ N →
      CallsIn Fence.wide n Try.prog 85 #[.int .i64 (m : Int), .int .i64 (many : Int), .int .i64 (set : Int), .func (.yield l) #[] #[]] W fun e W' =>
        (e = .returned (.bool true) ∧ J (pre ++ pickL many m set) W' ∧ Below n₀ W W') ∨ (e = .returned (.bool false) ∧ ∃ q, q <+: pickL many m set ∧ Jx (pre ++ q) W') := by
  induction many with
  | zero =>
    intro n m set pre W _ hm hs hJ hN
    have hy := hY (n - 1) pre set W hJ (by simp [pickL] at hN; omega)
    obtain ⟨fn, tmps, assign, body, hy, hR⟩ := hy
    rw [show ((0 : Nat) : Int) = 0 from rfl]
    refine callsIn_of_wp Try.func85 rfl trivial ?_ rfl
    simp only [Try.ntmps85, List.size_toArray, List.length_cons, List.length_nil, Nat.reduceAdd, Nat.reduceSub, Array.replicate_succ, Array.replicate_zero, List.push_toArray, List.append_toArray, List.nil_append, List.cons_append]
    gi_wp2
    refine wpIn_scope_wide ?_
    gi_wp2
    refine ⟨fun h => (by simp [Fence.wide] at h), hR.mono ?_⟩
    rintro e W3 (⟨rfl, hJ3, hk3⟩ | ⟨rfl, hJx3⟩)
    · gi_wp2
      rw [Exit.noGoto_ret]
      go_ret
      exact .inl ⟨rfl, hJ3, hk3⟩
    · gi_wp2
      rw [Exit.noGoto_ret]
      go_ret
      exact .inr ⟨rfl, [set], by simp [pickL], hJx3⟩
  | succ many ih =>
    intro n m set pre W hm10 hm hs hJ hN
    obtain ⟨mm, hmm⟩ : ∃ mm : Int, mm = ((many + 1 : Nat) : Int) := ⟨_, rfl⟩
    rw [← hmm]
    have hd : (mm == 0) = false := beq_eq_false_iff_ne.2 (by omega)
    have m0 : 1 ≤ mm := by omega
    have m1 : mm ≤ 10 := by omega
    have HMM := Lib.hid hmm
    clear hmm
    have IH := Lib.hid ih
    have HN := Lib.hid hN
    have HJ := Lib.hid hJ
    clear ih hN hJ
    refine callsIn_of_wp Try.func85 rfl trivial ?_ rfl
    simp only [Try.ntmps85, List.size_toArray, List.length_cons, List.length_nil, Nat.reduceAdd, Nat.reduceSub, Array.replicate_succ, Array.replicate_zero, List.push_toArray, List.append_toArray, List.nil_append, List.cons_append]
    gi_wp2
    refine wpIn_scope_wide ?_
    gi_wp2
    refine wpIn_label ?_
    gi_wp2
    gi_loopw [15] (fun i wr => ∃ k : Nat, k ≤ 10 ∧ i = .int .i64 k ∧ Hid (J (pre ++ pickTo (pickL many) m set k) wr ∧ Below n₀ W wr)) (fun i _ => 10 - (intOf i).toNat)
    case atStart => exact ⟨0, Nat.zero_le _, rfl, Lib.hid ⟨by rw [pickTo, List.append_nil]; exact HJ.out, Below.refl _ _⟩⟩
    case round =>
      obtain ⟨k, hk, rfl, HI⟩ := hrel
      by_cases hlt : k < 10
      · have hlti : (k : Int) < 10 := by omega
        have p0 : (0 : Int) ≤ (k : Int) := by omega
        have hbit := and_bit m k hm
        cases htb : m.testBit k
        · rw [htb, Bool.not_false] at hbit
          have HT := Lib.hid htb
          clear htb
          gi_wp2
          go_roundw
          case rel => exact ⟨k + 1, by omega, by go_num, Lib.hid (by rw [pickTo, pickAt, if_neg (by rw [HT.out]; simp), List.append_nil]; exact HI.out)⟩
          case measure => simp [intOf]; omega
        · rw [htb, Bool.not_true] at hbit
          have HT := Lib.hid htb
          clear htb
          have g2 := shl_nat m k hm
          have hle2 := cut_le m k
          have hone := one_lt k hlt
          have g3 := one_nat k hlt
          have g4 := i64_or_nat set (1 <<< k) hs hone
          have hor : set ||| 1 <<< k < 1024 := Nat.or_lt_two_pow (n := 10) hs hone
          obtain ⟨m', hm'⟩ : ∃ m', m' = m >>> (k + 1) <<< (k + 1) := ⟨_, rfl⟩
          rw [← hm'] at g2 hle2
          obtain ⟨q, hq⟩ : ∃ q, q = 1 <<< k := ⟨_, rfl⟩
          rw [← hq] at g3 g4 hor
          obtain ⟨s', hs'⟩ : ∃ s', s' = set ||| q := ⟨_, rfl⟩
          rw [← hs'] at g4 hor
          have g5 : IntKind.i64.wrap ((k : Int) + 1) = (k : Int) + 1 := IntWalk.i64_in _ (by omega)
          have g6 : IntKind.i64.wrap (mm - 1) = (many : Int) := by rw [IntWalk.i64_in _ (by omega)]; have := HMM.out; omega
          have hpt : pickTo (pickL many) m set (k + 1) = pickTo (pickL many) m set k ++ pickL many m' s' := by
            rw [pickTo, pickAt, if_pos HT.out, hs', hq, hm']
          have hlen : (pre ++ pickTo (pickL many) m set k).length + (pickL many m' s').length ≤ N := by
            have h1 := (pickTo_prefix (pickL many) m set (k + 1) 10 (by omega)).length_le
            have h2 := HN.out
            rw [pickL] at h2
            rw [hpt, List.length_append] at h1
            rw [List.length_append]
            omega
          have HPT := Lib.hid hpt
          have HREC := Lib.hid (callsIn_wide.1 (IH.out 0 m' s' (pre ++ pickTo (pickL many) m set k) wr.drew (by omega) (by omega) hor (hJd _ _ HI.out.1) hlen))
          clear hle2 hone hor hm' hq hs' hpt hlen
          gi_wp2
          refine wpIn_wide.2 ?_
          go_region_held3 (fun _ => True) (trivial) ((go_at_call 85; refine HREC.out.mono ?_; intro e w1 h_; obtain ⟨v, rfl, HV⟩ := two_ways h_; clear h_))
          clear HREC
          rcases HV.out with ⟨rfl, hJ1, hb1⟩ | ⟨rfl, p, hp, hx⟩
          · have H1 := Lib.hid (And.intro hJ1 hb1)
            clear hJ1 hb1 HV
            gi_wp2
            go_roundw
            case rel => exact ⟨k + 1, by omega, by go_num, Lib.hid ⟨by rw [HPT.out, ← List.append_assoc]; exact H1.out.1, HI.out.2.drew.trans H1.out.2⟩⟩
            case measure => simp [intOf]; omega
          · have H1 := Lib.hid (And.intro hp hx)
            clear hp hx HV
            gi_wp2
            rw [Exit.noGoto_ret]
            go_ret
            refine .inr ⟨rfl, pickTo (pickL many) m set k ++ p, ?_, by rw [← List.append_assoc]; exact H1.out.2⟩
            rw [pickL]
            have h1 := pickTo_prefix (pickL many) m set (k + 1) 10 (by omega)
            rw [HPT.out] at h1
            exact (List.prefix_append_right_inj _ |>.2 H1.out.1).trans h1
      · have hnl : ¬ (k : Int) < 10 := by omega
        have HK : Hid (k = 10) := Lib.hid (by omega)
        gi_wp2
        try rw [Exit.noGoto_ret]
        go_ret
        exact .inl ⟨rfl, by rw [pickL, ← HK.out]; exact HI.out.1, HI.out.2⟩
end Go.Proofs.Ytbhcchhhpmlpmaa.Hand

/- Keep comes to the first set of strokes that tells an owner. -/
namespace Go.Proofs.Ytbhcchhhpmlpmaa.Hand
set_option linter.unusedVariables false
set_option linter.unusedSimpArgs false
open Go.RowKit Go.Shelf Go.Maps Go.Proofs.YtbhcchhhpmlpmaaW.PrintWords Go.Proofs.YtbhcchhhpmlpmaaW.PrintLast Go.Proofs.YtbhcchhhpmlpmaaW.PrintMore Go.Proofs.Ytbhcchhhpmlpmaa.PrA
attribute [local go_sem] Oper.semAt_some

theorem room_of_none {F : Fence} (hd : F.depth = none) (k : Nat) : F.room k := fun d h => by rw [hd] at h; cases h
theorem round_any {F : Fence} (hd : F.depth = none) {m m' : Nat} {P : Program} {l : Nat} {f : FuncId} {tmps : Array Value} {assign body : Code} {w : World} {R : Ending → World → Prop}
    (h : RoundIn F m P l f tmps assign body w R) : RoundIn F m' P l f tmps assign body w R := ⟨h.1, fun c cs _ => h.2 c cs (room_of_none hd _)⟩
theorem yield_any {F : Fence} (hd : F.depth = none) {m : Nat} (m' : Nat) {P : Program} {l : Nat} {args : Array Value} {W : World} {R : Ending → World → Prop} (h : YieldAt F m P l args W R) : YieldAt F m' P l args W R := by
  obtain ⟨fn, tmps, assign, body, hy, hR⟩ := h
  exact ⟨fn, tmps, assign, body, hy, round_any hd hR⟩

/-- the sets with less than so many strokes -/
def setsTo (m : Nat) : Nat → List Nat
  | 0 => []
  | k + 1 => setsTo m k ++ pickL k m 0
/-- all sets of strokes of a mark -/
def setsL (m : Nat) : List Nat := setsTo m (pc m + 1)
theorem setsTo_prefix (m i j : Nat) (h : i ≤ j) : setsTo m i <+: setsTo m j := by
  induction j with
  | zero => obtain rfl : i = 0 := by omega
            exact List.prefix_refl _
  | succ j ih =>
    by_cases e : i = j + 1
    · subst e; exact List.prefix_refl _
    · exact (ih (by omega)).trans (List.prefix_append _ _)
def setEnc (x : Nat) : Array Value := #[.int .i64 (x : Int)]

theorem sets_any (p : Value) (m : Int) (w : World) : Calls Try.prog 68 #[p, .int .i64 m] w fun e w' =>
    e = .returned (.func (.func 84) #[] #[.pointer (some ⟨w.heap.size, 0, none⟩)]) ∧ w' = w.alloc (.cells #[.int .i64 m] 3) := by
  go_enter Try.func68, Try.ntmps68
  go_wp2
  go_ret
  exact ⟨rfl, rfl⟩

theorem grown_of_keep {W W' : World} (h : Below W.heap.size W W') : W.grownBy W' none := ⟨h.os, h.tape, h.output, h.size, fun k hk _ => h.block k hk⟩

set_option maxRecDepth 100000 in
set_option maxHeartbeats 4000000 in
theorem sets_stops (m b n0 : Nat) (hm : m < 1024) (w : World) (hn0 : n0 ≤ w.heap.size) (hb : b < n0) (c1 : w.cell? ⟨b, 0, none⟩ = some (.int .i64 (m : Int))) (n : Nat) :
    SeqStopsK Fence.wide n Try.prog 84 #[.pointer (some ⟨b, 0, none⟩)] setEnc (Below n0) (fun xs => xs = setsL m) (fun pre => pre <+: setsL m) (setsL m).length w := fun l J Jx W hW hJ hJx hY h0 => by
  have d1 : W.cell? ⟨b, 0, none⟩ = some (.int .i64 (m : Int)) := (hW.cell (by show b < _; omega)).trans c1
  have HS := Lib.hid (size_any (m : Int) W)
  rw [szI_table m hm] at HS
  have hpc := pc_le m
  obtain ⟨p, hp⟩ : ∃ p, p = pc m := ⟨_, rfl⟩
  rw [← hp] at HS hpc
  have HL : Hid (setsL m = setsTo m (p + 1)) := Lib.hid (by rw [setsL, hp])
  have hnW : n0 ≤ W.heap.size := Nat.le_trans hn0 hW.size
  have HPICK := Lib.hid (fun (many : Nat) (pre : List Nat) (W' : World) (h10 : many ≤ 10) (hJ' : J pre W') (hN : pre.length + (pickL many m 0).length ≤ (setsL m).length) =>
    pick_in l n0 (setsL m).length J Jx (fun m' pre x W1 hj hl => yield_any (m := n - 1) rfl m' (hY pre x W1 hj hl)) (fun pre W1 hj => hJ pre W1 W1.drew none hj (grown_of_keep (Below.refl _ _).drew) (fun r e => by cases e)) many 0 m 0 pre W' h10 hm (by decide) hJ' hN)
  have HJ := Lib.hid hJ
  have HB0 : Hid (b < n0) := Lib.hid hb
  clear hJ hJx hY hp c1 hW
  refine callsIn_of_wp Try.func84 rfl trivial ?_ rfl
  simp only [Try.ntmps84, List.size_toArray, List.length_cons, List.length_nil, Nat.reduceAdd, Nat.reduceSub, Array.replicate_succ, Array.replicate_zero, List.push_toArray, List.append_toArray, List.nil_append, List.cons_append]
  gi_wp2
  refine ⟨trivial, fun h => (by simp [Fence.wide] at h), ?_⟩
  refine (callsIn_wide.2 HS.out).mono ?_
  rintro e w2 ⟨rfl, hb2⟩
  have HD := Lib.hid ((hb2.cell (cell_size d1)).trans d1)
  have h2 := Lib.hid (HJ.out [] W w2 none h0 (grown_of_keep hb2) (fun r e => by cases e))
  have HB2 := Lib.hid hb2
  clear hb2 d1 h0 HS
  gi_wp2
  gi_loopw [7] (fun i wr => ∃ k : Nat, k ≤ p + 1 ∧ i = .int .i64 k ∧ Hid (J (setsTo m k) wr ∧ Below n0 w2 wr)) (fun i _ => p + 1 - (intOf i).toNat)
  case atStart => exact ⟨0, Nat.zero_le _, rfl, Lib.hid ⟨h2.out, Below.refl _ _⟩⟩
  case round =>
    obtain ⟨k, hk, rfl, HI⟩ := hrel
    by_cases hlt : k < p + 1
    · have hlti : (k : Int) < (p : Int) + 1 := by omega
      have e1 : wr.cell? ⟨b, 0, none⟩ = some (.int .i64 (m : Int)) := (HI.out.2.cell HB0.out).trans HD.out
      have hlen : (setsTo m k).length + (pickL k m 0).length ≤ (setsL m).length := by
        have h1 := (setsTo_prefix m (k + 1) (p + 1) (by omega)).length_le
        rw [setsTo, List.length_append] at h1
        rw [HL.out]
        exact h1
      have HP := Lib.hid (HPICK.out k (setsTo m k) wr (by omega) HI.out.1 hlen)
      clear hlen
      gi_wp2
      refine ⟨trivial, fun h => (by simp [Fence.wide] at h), ?_⟩
      refine (callsIn_wide.2 (callsIn_wide.1 HP.out)).mono ?_
      rintro e w3 (⟨rfl, hJ3, hk3⟩ | ⟨rfl, q, hq, hx⟩)
      · have H3 := Lib.hid (And.intro hJ3 hk3)
        clear hJ3 hk3 e1 HP
        gi_wp2
        go_roundw
        case rel => exact ⟨k + 1, by omega, by go_num, Lib.hid ⟨by rw [setsTo]; exact H3.out.1, HI.out.2.trans H3.out.2⟩⟩
        case measure => simp [intOf]; omega
      · have H3 := Lib.hid (And.intro hq hx)
        clear hq hx e1 HP
        gi_wp2
        refine bodyPost_ret (results_none rfl _ _ _) rfl ?_
        refine ⟨⟨_, rfl⟩, .inr ⟨_, ?_, H3.out.2⟩⟩
        rw [HL.out]
        have h1 := setsTo_prefix m (k + 1) (p + 1) (by omega)
        rw [setsTo] at h1
        exact (List.prefix_append_right_inj _ |>.2 H3.out.1).trans h1
    · have hnl : ¬ (k : Int) < (p : Int) + 1 := by omega
      have HK : Hid (k = p + 1) := Lib.hid (by omega)
      gi_wp2
      go_end0
      exact ⟨⟨_, rfl⟩, .inl (by rw [HL.out, ← HK.out]; exact HI.out.1)⟩

theorem cell_alloc' {w : World} {p : Addr} {v : Value} {x : Obj} (h : w.cell? p = some v) : (w.alloc x).cell? p = some v := by
  rw [((Below.refl w.heap.size w).alloc (Nat.le_refl _) x).cell (cell_size h)]; exact h
def lastI (pre : List Nat) : Int := ((pre.getLast?.getD 0 : Nat) : Int)
/-- no set so far tells the owner -/
def KeepMiss (l : List Int) (o : Int) (pre : List Nat) : Prop := ∀ x ∈ pre, tellsB l o (x : Int) = false
/-- the last set so far, and no other one, tells the owner -/
def KeepHit (l : List Int) (o : Int) (cd : Code) (pre : List Nat) : Prop := cd = .ret ∧ ∃ (q : List Nat) (x : Nat), pre = q ++ [x] ∧ KeepMiss l o q ∧ tellsB l o (x : Int) = true
theorem keepMiss_nil (l : List Int) (o : Int) : KeepMiss l o [] := fun x hx => by cases hx
theorem keepMiss_snoc {l : List Int} {o : Int} {pre : List Nat} {x : Nat} (h : KeepMiss l o pre) (hx : tellsB l o (x : Int) = false) : KeepMiss l o (pre ++ [x]) := fun y hy => by
  rcases List.mem_append.1 hy with hy | hy
  · exact h y hy
  · obtain rfl : y = x := by simpa using hy
    exact hx
theorem keepHit_snoc {l : List Int} {o : Int} {pre : List Nat} {x : Nat} (h : KeepMiss l o pre) (hx : tellsB l o (x : Int) = true) : KeepHit l o .ret (pre ++ [x]) := ⟨rfl, pre, x, rfl, h, hx⟩
theorem lastI_snoc (pre : List Nat) (x : Nat) : lastI (pre ++ [x]) = (x : Int) := by simp [lastI]
theorem find_miss {l : List Int} {o : Int} {L : List Nat} (h : KeepMiss l o L) : L.find? (fun s : Nat => tellsB l o (s : Int)) = none := by
  rw [List.find?_eq_none]
  intro x hx
  rw [h x hx]; simp
theorem find_hit {l : List Int} {o : Int} {L q : List Nat} {x : Nat} (hp : q ++ [x] <+: L) (h : KeepMiss l o q) (hx : tellsB l o (x : Int) = true) : L.find? (fun s : Nat => tellsB l o (s : Int)) = some x := by
  obtain ⟨r, rfl⟩ := hp
  rw [List.append_assoc, List.find?_append, find_miss h]
  simp [hx]
/-- the first set of strokes that tells an owner -/
def keepV (l : List Int) (ow : Int) : Int × Int := match (setsL (rd l ow).toNat).find? (fun s : Nat => tellsB l ow (s : Int)) with | some s => ((s : Int), 0) | none => (0, 17)

set_option maxHeartbeats 4000000 in
set_option maxRecDepth 100000 in
theorem keep_good (a0 a1 : Int) (A : Option Addr) (c : Nat) (l : List Int) (ow : Int) (w : World) (hr : Kd.C (Kd.int .i64) w A l.length l) (hc : l.length ≤ c) (ho : officeN a0 a1 l = 0) (hn : outB 0 (l.length - 1) ow = false) :
    Calls Try.prog 32 #[.agg #[.int .i64 a0, .int .i64 a1, .slice A l.length c], .int .i64 ow] w
      fun e w' => e = .returned (.tuple #[.int .i64 (keepV l ow).1, .int .i64 (keepV l ow).2]) ∧ Below w.heap.size w w' := by
  obtain ⟨W, hW⟩ : ∃ W, W = (((w.alloc (.cells #[.int .i64 a0, .int .i64 a1, .slice A l.length c] 24)).alloc (.cells #[.int .i64 ow] 3)).alloc (.cells #[.int .i64 0] 3)).alloc (.cells #[.int .i64 0] 27) := ⟨_, rfl⟩
  have hbl : Below w.heap.size w W := by rw [hW]; exact ((((Below.refl w.heap.size w).alloc (Nat.le_refl _) _).alloc (by simp) _).alloc (by simp; omega) _).alloc (by simp; omega) _
  have hB : RegAt W w.heap.size a0 a1 A c l := by rw [hW]; refine ⟨?_, ?_, ?_⟩ <;> simp [go_sem]
  have hW3 : W.cell? ⟨w.heap.size + 1, 0, none⟩ = some (.int .i64 ow) := by rw [hW]; simp [go_sem]
  have hW4 : W.cell? ⟨w.heap.size + 2, 0, none⟩ = some (.int .i64 0) := by rw [hW]; simp [go_sem]
  have hW5 : W.cell? ⟨w.heap.size + 3, 0, none⟩ = some (.int .i64 0) := by rw [hW]; simp [go_sem]
  have hF4 : W.frozen? ⟨w.heap.size + 2, 0, none⟩ = false := by rw [hW]; simp [go_sem]
  have hF5 : W.frozen? ⟨w.heap.size + 3, 0, none⟩ = false := by rw [hW]; simp [go_sem]
  have hsz : W.heap.size = w.heap.size + 4 := by rw [hW]; simp
  have HSW := Lib.hid hsz
  have hO := open1_good a0 a1 A c l ow W (Kd.C_below hr hbl) hc ho hn
  have hadr : (⟨W.heap.size, 0, none⟩ : Addr) = ⟨w.heap.size + 1 + 1 + 1 + 1, 0, none⟩ := by rw [hsz]
  rw [hadr] at hO
  have HO := Lib.hid hO
  have HBL := Lib.hid hbl
  have HB := Lib.hid hB
  have HWC := Lib.hid (And.intro hW3 (And.intro hW4 (And.intro hW5 (And.intro hF4 hF5))))
  have n1 := out_in hn
  have p1 : 0 ≤ ow := n1.1
  have p2 : ow < (l.length : Int) := by omega
  obtain ⟨o, rfl⟩ := Int.eq_ofNat_of_zero_le p1
  have hmb := mark_bound ho o (by omega)
  obtain ⟨ad, rfl, x1⟩ := Kd.at_int hr (o : Int) p1 p2
  rw [Int.toNat_natCast] at x1
  obtain ⟨m, hm⟩ : ∃ m : Nat, rd l (o : Int) = (m : Int) := ⟨(rd l (o : Int)).toNat, by omega⟩
  have hm24 : m < 1024 := by omega
  have HK : Hid (keepV l (o : Int) = match (setsL m).find? (fun s : Nat => tellsB l (o : Int) (s : Int)) with | some s => ((s : Int), 0) | none => (0, 17)) := Lib.hid (by rw [keepV, hm, Int.toNat_natCast])
  obtain ⟨R, hR⟩ : ∃ R, R = keepV l (o : Int) := ⟨_, rfl⟩
  rw [← hR] at HK ⊢
  rw [hm] at x1
  have HX1 := Lib.hid x1
  have HR := Lib.hid hr
  have HTL := Lib.hid (fun (b : Nat) (s : Nat) (W' : World) (hB : RegAt W' b a0 a1 (some ad) c l) (hr : Kd.C (Kd.int .i64) W' (some ad) l.length l) => tells_any b a0 a1 (some ad) c l (o : Int) (s : Int) W' hB hr hc)
  clear hbl hB hW3 hW4 hW5 hF4 hF5 hsz hadr hO n1 hn ho hmb hm hR x1 hr
  refine (callsIn_wide (n := 5)).1 (callsIn_of_wp_marks Try.func32 rfl trivial (wpIn_wide.2 ?_) rfl)
  simp only [Try.ntmps32, List.size_toArray, List.length_cons, List.length_nil, Nat.reduceAdd, Nat.reduceSub, Array.replicate_succ, Array.replicate_zero, List.push_toArray, List.append_toArray, List.nil_append, List.cons_append]
  go_wp2_with fail
  rw [← hW]
  clear hW
  refine (HO.out).mono ?_
  rintro e w1 ⟨b, rfl, hR1, hb1, hw1⟩
  obtain ⟨W2, hW2⟩ : ∃ W2, W2 = w1.alloc (.cells #[.pointer (some ⟨b, 0, none⟩)] 63) := ⟨_, rfl⟩
  have hb2 : Below w1.heap.size w1 W2 := by rw [hW2]; exact (Below.refl _ _).alloc (Nat.le_refl _) _
  have hWW2 := hw1.trans (hb2.mono hw1.size)
  obtain ⟨c0, c1, c2⟩ := reg_below HB.out hWW2 (cell_size HB.out.1)
  have c3 : W2.cell? ⟨w.heap.size + 1, 0, none⟩ = some (.int .i64 (o : Int)) := (hWW2.cell (cell_size HWC.out.1)).trans HWC.out.1
  have c6 : W2.cell? ⟨w1.heap.size, 0, none⟩ = some (.pointer (some ⟨b, 0, none⟩)) := by rw [hW2]; simp
  have hwW2 := HBL.out.trans (hWW2.mono HBL.out.size)
  have x1 : W2.cell? (ad.add o) = some (.int .i64 (m : Int)) := (hwW2.cell (World.block_lt_of_cell? w _ HX1.out)).trans HX1.out
  have HR1 := Lib.hid (reg_below hR1 hb2 (cell_size hR1.1))
  have HC := Lib.hid (And.intro c0 (And.intro c1 (And.intro c2 (And.intro c3 (And.intro c6 x1)))))
  have HB2 := Lib.hid (And.intro hWW2 hwW2)
  have HSZ2 : Hid (W2.heap.size = w1.heap.size + 1) := Lib.hid (by rw [hW2]; simp)
  have HSZ1 := Lib.hid hw1.size
  clear hR1 hb1 hw1 hb2 hWW2 hwW2 c0 c1
  go_wp2_with fail
  rw [← hW2]
  clear hW2
  have hS : W2.drew.cell? ⟨w1.heap.size, 0, none⟩ = some (.pointer (some ⟨b, 0, none⟩)) ∧ W2.drew.cell? ⟨w.heap.size, 2, none⟩ = some (.slice (some ad) l.length c) ∧ W2.drew.cell? ⟨w.heap.size + 1, 0, none⟩ = some (.int .i64 (o : Int)) ∧ W2.drew.cell? (ad.add o) = some (.int .i64 (m : Int)) := ⟨c6, c2, c3, x1⟩
  go_region_held3 (fun w' => w'.cell? ⟨w1.heap.size, 0, none⟩ = some (.pointer (some ⟨b, 0, none⟩)) ∧ w'.cell? ⟨w.heap.size, 2, none⟩ = some (.slice (some ad) l.length c) ∧ w'.cell? ⟨w.heap.size + 1, 0, none⟩ = some (.int .i64 (o : Int)) ∧ w'.cell? (ad.add o) = some (.int .i64 (m : Int))) (first | assumption | exact ⟨cell_alloc' hS.1, cell_alloc' hS.2.1, cell_alloc' hS.2.2.1, cell_alloc' hS.2.2.2⟩)
    ((go_at_call 68; refine (sets_any _ _ _).mono ?_; rintro e w' ⟨rfl, rfl⟩))
  obtain ⟨W6, hW6⟩ : ∃ W6, W6 = (W2.alloc (.cells #[.int .i64 (m : Int)] 3)).drew := ⟨_, rfl⟩
  rw [← hW6]
  have hb6 : Below W2.heap.size W2 W6 := by rw [hW6]; exact ((Below.refl _ _).alloc (Nat.le_refl _) _).drew
  have hs6 : W6.heap.size = W2.heap.size + 1 := by rw [hW6]; simp
  have cm : W6.cell? ⟨W2.heap.size, 0, none⟩ = some (.int .i64 (m : Int)) := by rw [hW6]; simp [go_sem]
  have hwW6 := HB2.out.2.trans (hb6.mono HB2.out.2.size)
  have HST := Lib.hid (sets_stops m W2.heap.size W6.heap.size hm24 W6 (Nat.le_refl _) (by omega) cm 4)
  have HC6 := Lib.hid (And.intro ((hb6.cell (cell_size HC.out.2.2.2.1)).trans HC.out.2.2.2.1) ((hb6.cell (cell_size HC.out.2.2.2.2.1)).trans HC.out.2.2.2.2.1))
  have HR6 := Lib.hid (reg_below HR1.out hb6 (cell_size HR1.out.1))
  have HKD := Lib.hid (Kd.C_below HR.out hwW6)
  have hW6' := HB2.out.1.trans (hb6.mono (Nat.le_trans HSZ1.out (by have := HSZ2.out; omega)))
  have HT6 := Lib.hid (And.intro ((hW6'.cell (cell_size HWC.out.2.1)).trans HWC.out.2.1) (And.intro ((hW6'.cell (cell_size HWC.out.2.2.1)).trans HWC.out.2.2.1) (And.intro ((hW6'.frozen (cell_size HWC.out.2.1)).trans HWC.out.2.2.2.1) ((hW6'.frozen (cell_size HWC.out.2.2.1)).trans HWC.out.2.2.2.2))))
  have HSZ6 : Hid (W6.heap.size = W2.heap.size + 1) := Lib.hid hs6
  have HW6 := Lib.hid hwW6
  clear hW6 hb6 hs6 cm hwW6 hW6' c2 c3 c6 x1 hS HC HB2 HR1 HR HO HX1
  go_wp2_with fail
  refine (wpIn_wide (n := 5)).1 ?_
  refine wpIn_rangeFunc_ownF (F := Fence.wide) rfl (by decide) (gf := 84) (lb := #[.pointer (some ⟨W2.heap.size, 0, none⟩)]) rfl trivial (enters_of Try.func84 (by kernel_rfl) rfl)
    HST.out belowK_t (belowK_b (Nat.le_refl _)) (Below.refl _ _) (fun _ => rfl)
    (fun pre W' => KeepMiss l (o : Int) pre ∧ Below W6.heap.size W6 W')
    (fun cd pre W' => KeepHit l (o : Int) cd pre ∧ (W'.cell? ⟨w.heap.size + 2, 0, none⟩ = some (.int .i64 (lastI pre)) ∧ W'.cell? ⟨w.heap.size + 3, 0, none⟩ = some (.int .i64 0)) ∧ Below w.heap.size w W')
    (OwnFrom.and (ownFrom_pure _ _) (ownFrom_below (Nat.le_refl _) (Nat.le_refl _)))
    (fun cd => OwnFrom.and (ownFrom_pure _ _) (OwnFrom.and (Own.from (fun s X Y row hs hg hr => ⟨Go.cell_kept hs.1 hg hr, Go.cell_kept hs.2 hg hr⟩) _) (ownFrom_below (Nat.le_refl _) HW6.out.size)))
    ⟨keepMiss_nil _ _, Below.refl _ _⟩
    (fun x => { tmps := #[.agg #[.int .i64 a0, .int .i64 a1, .slice (some ad) l.length c], .int .i64 (o : Int), .pointer (some ⟨w.heap.size, 0, none⟩), .pointer (some ⟨w.heap.size + 1, 0, none⟩), .pointer (some ⟨w.heap.size + 1 + 1, 0, none⟩), .pointer (some ⟨w.heap.size + 1 + 1 + 1, 0, none⟩), .pointer (some ⟨w1.heap.size, 0, none⟩), .int .i64 0, .int .i64 (x : Int),
      .tuple #[.pointer (some ⟨b, 0, none⟩), .int .i64 0], .agg #[.int .i64 a0, .int .i64 a1, .slice (some ad) l.length c], .int .i64 (o : Int), .slice (some ⟨w.heap.size + 1 + 1 + 1 + 1, 0, none⟩) 1 1, .tuple #[.pointer (some ⟨b, 0, none⟩), .int .i64 0], .pointer (some ⟨b, 0, none⟩), .int .i64 0, .int .i64 0, .bool false, undef, .pointer (some ⟨b, 0, none⟩),
      .pointer (some ⟨w.heap.size, 2, none⟩), .slice (some ad) l.length c, .int .i64 (o : Int), .pointer (some (ad.add o)), .int .i64 (m : Int), .func (.func 84) #[] #[.pointer (some ⟨W2.heap.size, 0, none⟩)], .int .i64 (x : Int), undef, undef, undef, undef, undef], defers := [] }) ?assign ?body ?done ?stop
  case assign =>
    intro l' x W' K hK
    dsimp only [setEnc]
    gi_wp2
    exact hK
  case body =>
    rintro l' pre x W' ⟨hmiss, hb⟩ hlen
    have e3 : W'.cell? ⟨w.heap.size + 1, 0, none⟩ = some (.int .i64 (o : Int)) := (hb.cell (cell_size HC6.out.1)).trans HC6.out.1
    have e6 : W'.cell? ⟨w1.heap.size, 0, none⟩ = some (.pointer (some ⟨b, 0, none⟩)) := (hb.cell (cell_size HC6.out.2)).trans HC6.out.2
    have HTT := HTL.out b x W' (reg_below HR6.out hb (cell_size HR6.out.1)) (Kd.C_below HKD.out hb)
    have hs2 := keepMiss_snoc (l := l) (o := (o : Int)) (x := x) hmiss
    have hs3 := keepHit_snoc (l := l) (o := (o : Int)) (x := x) hmiss
    obtain ⟨v, hv⟩ : ∃ v, v = tellsB l (o : Int) (x : Int) := ⟨_, rfl⟩
    rw [← hv] at HTT hs2 hs3
    have HTT := Lib.hid HTT
    have HS2 := Lib.hid hs2
    have HS3 := Lib.hid hs3
    have HBB := Lib.hid hb
    clear hv hs2 hs3 hb hmiss
    cases v
    · gi_wp2_with (first | (refine ⟨trivial, ?_⟩; gi_at_call 69; refine (CallsIn.inRound l' (callsIn_wide.2 HTT.out)).mono ?_; rintro e w7 ⟨rfl, hb7⟩; have HB7 := Lib.hid hb7; clear hb7))
      exact ⟨KeepsOthers.of_grownBy (grown_of_keep HB7.out) (fun j o' e => by cases e), HB7.out.mono HBB.out.size, HS2.out (by trivial), HBB.out.trans (HB7.out.mono HBB.out.size)⟩
    · gi_wp2_with (first | (refine ⟨trivial, ?_⟩; gi_at_call 69; refine (CallsIn.inRound l' (callsIn_wide.2 HTT.out)).mono ?_; rintro e w7 ⟨rfl, hb7⟩; have HB7 := Lib.hid (HBB.out.trans (hb7.mono HBB.out.size)); have HB8 := Lib.hid hb7; clear hb7; have v4 : w7.cell? ⟨w.heap.size + 1 + 1, 0, none⟩ = some (.int .i64 0) := (HB7.out.cell (cell_size HT6.out.1)).trans HT6.out.1; have v5 : w7.cell? ⟨w.heap.size + 1 + 1 + 1, 0, none⟩ = some (.int .i64 0) := (HB7.out.cell (cell_size HT6.out.2.1)).trans HT6.out.2.1; have f4 : w7.frozen? ⟨w.heap.size + 1 + 1, 0, none⟩ = false := (HB7.out.frozen (cell_size HT6.out.1)).trans HT6.out.2.2.1; have f5 : w7.frozen? ⟨w.heap.size + 1 + 1 + 1, 0, none⟩ = false := (HB7.out.frozen (cell_size HT6.out.2.1)).trans HT6.out.2.2.2))
      refine ⟨(KeepsOthers.of_grownBy (grown_of_keep HB8.out) (fun j o' e => by cases e)).trans ((KeepsOthers.setCell _ _ _).trans (KeepsOthers.setCell _ _ _)), HS3.out (by trivial), ⟨?_, ?_⟩, ?_⟩
      · rw [lastI_snoc]
        show ((w7.setCell ⟨w.heap.size + 1 + 1, 0, none⟩ (.int .i64 (x : Int))).setCell ⟨w.heap.size + 1 + 1 + 1, 0, none⟩ (.int .i64 0)).cell? ⟨w.heap.size + 1 + 1, 0, none⟩ = _
        rw [World.cell?_setCell_other _ _ _ _ (by simp)]
        exact World.cell?_setCell_same' _ _ _ (by rw [v4]; rfl)
      · show ((w7.setCell ⟨w.heap.size + 1 + 1, 0, none⟩ (.int .i64 (x : Int))).setCell ⟨w.heap.size + 1 + 1 + 1, 0, none⟩ (.int .i64 0)).cell? ⟨w.heap.size + 1 + 1 + 1, 0, none⟩ = _
        exact World.cell?_setCell_same' _ _ _ (by rw [World.cell?_setCell_other _ _ _ _ (by simp), v5]; rfl)
      · exact ((HW6.out.trans (HB7.out.mono HW6.out.size)).setCell (by simp; omega) _).setCell (by simp; omega) _
  case done =>
    rintro D ys W' hD hys ⟨hmiss, hb⟩ hK
    have v4 : W'.cell? ⟨w.heap.size + 1 + 1, 0, none⟩ = some (.int .i64 0) := (hb.cell (cell_size HT6.out.1)).trans HT6.out.1
    have v5 : W'.cell? ⟨w.heap.size + 1 + 1 + 1, 0, none⟩ = some (.int .i64 0) := (hb.cell (cell_size HT6.out.2.1)).trans HT6.out.2.1
    have f4 : W'.frozen? ⟨w.heap.size + 1 + 1, 0, none⟩ = false := (hb.frozen (cell_size HT6.out.1)).trans HT6.out.2.2.1
    have f5 : W'.frozen? ⟨w.heap.size + 1 + 1 + 1, 0, none⟩ = false := (hb.frozen (cell_size HT6.out.2.1)).trans HT6.out.2.2.2
    have hR : R = (0, 17) := by rw [HK.out, ← hys, find_miss hmiss]
    have HRR := Lib.hid hR
    have HBW := Lib.hid (HW6.out.trans (hb.mono HW6.out.size))
    have HDK := Lib.hid (And.intro hD hK)
    clear hR hys hmiss hb hD hK
    gi_wp2
    go_wp2
    have hK' := ((KeepsOthers.setCell W' ⟨w.heap.size + 1 + 1, 0, none⟩ (.int .i64 0)).trans (KeepsOthers.setCell _ ⟨w.heap.size + 1 + 1 + 1, 0, none⟩ (.int .i64 17))).same D _ HDK.out.2 rfl
    refine ⟨by simp, .inl ⟨_, _, rfl, run_takeDeferred hK', ?_⟩⟩
    have hg := grownBy_putObj' ((W'.setCell ⟨w.heap.size + 1 + 1, 0, none⟩ (.int .i64 0)).setCell ⟨w.heap.size + 1 + 1 + 1, 0, none⟩ (.int .i64 17)) D (.deferred none)
    have y1 := Go.cell_kept (show ((W'.setCell ⟨w.heap.size + 1 + 1, 0, none⟩ (.int .i64 0)).setCell ⟨w.heap.size + 1 + 1 + 1, 0, none⟩ (.int .i64 17)).cell? ⟨w.heap.size + 1 + 1, 0, none⟩ = some (.int .i64 0) by rw [World.cell?_setCell_other _ _ _ _ (by simp)]; exact World.cell?_setCell_same' _ _ _ (by rw [v4]; rfl)) hg (fun r e => by cases e; exact ⟨_, hK', rfl⟩)
    have y2 := Go.cell_kept (show ((W'.setCell ⟨w.heap.size + 1 + 1, 0, none⟩ (.int .i64 0)).setCell ⟨w.heap.size + 1 + 1 + 1, 0, none⟩ (.int .i64 17)).cell? ⟨w.heap.size + 1 + 1 + 1, 0, none⟩ = some (.int .i64 17) by exact World.cell?_setCell_same' _ _ _ (by rw [World.cell?_setCell_other _ _ _ _ (by simp), v5]; rfl)) hg (fun r e => by cases e; exact ⟨_, hK', rfl⟩)
    refine ⟨.tuple #[.int .i64 0, .int .i64 17], ?_, by rw [HRR.out], ((HBW.out.setCell (by simp; omega) _).setCell (by simp; omega) _).trans (belowK_b (w := W6) HW6.out.size _ D _ _ HDK.out.1 hK' rfl rfl)⟩
    simp [results, Try.results32, go_sem, y1, y2]
  case stop =>
    rintro D cd pre W' hD hpre ⟨⟨rfl, q, x, rfl, hq, hx⟩, ⟨hc1, hc2⟩, hb⟩ hK
    rw [lastI_snoc] at hc1
    have hR : R = ((x : Int), 0) := by rw [HK.out, find_hit hpre hq hx]
    have HRR := Lib.hid hR
    have HBW := Lib.hid hb
    have HDK := Lib.hid (And.intro hD hK)
    have HCC := Lib.hid (And.intro hc1 hc2)
    clear hR hpre hq hx hb hD hK hc1 hc2
    gi_wp2
    have hK' := HDK.out.2
    refine ⟨by simp, .inl ⟨_, _, rfl, run_takeDeferred hK', ?_⟩⟩
    have hg := grownBy_putObj' W' D (.deferred none)
    have y1 := Go.cell_kept (show W'.cell? ⟨w.heap.size + 1 + 1, 0, none⟩ = some (.int .i64 (x : Int)) from HCC.out.1) hg (fun r e => by cases e; exact ⟨_, hK', rfl⟩)
    have y2 := Go.cell_kept (show W'.cell? ⟨w.heap.size + 1 + 1 + 1, 0, none⟩ = some (.int .i64 0) from HCC.out.2) hg (fun r e => by cases e; exact ⟨_, hK', rfl⟩)
    refine ⟨.tuple #[.int .i64 (x : Int), .int .i64 0], ?_, by rw [HRR.out], HBW.out.trans (belowK_b (w := W6) HW6.out.size _ D _ _ HDK.out.1 hK' rfl rfl)⟩
    simp [results, Try.results32, go_sem, y1, y2]

set_option maxHeartbeats 4000000 in
theorem keep_bad (a0 a1 : Int) (A : Option Addr) (c : Nat) (l : List Int) (ow E : Int) (w : World) (hr : Kd.C (Kd.int .i64) w A l.length l) (hc : l.length ≤ c) (hE : E ≠ 0)
    (ho : officeN a0 a1 l = E ∨ (officeN a0 a1 l = 0 ∧ outB 0 (l.length - 1) ow = true ∧ E = 2)) :
    Calls Try.prog 32 #[.agg #[.int .i64 a0, .int .i64 a1, .slice A l.length c], .int .i64 ow] w
      fun e w' => e = .returned (.tuple #[.int .i64 0, .int .i64 E]) ∧ Below w.heap.size w w' := by
  obtain ⟨W, hW⟩ : ∃ W, W = (((w.alloc (.cells #[.int .i64 a0, .int .i64 a1, .slice A l.length c] 24)).alloc (.cells #[.int .i64 ow] 3)).alloc (.cells #[.int .i64 0] 3)).alloc (.cells #[.int .i64 0] 27) := ⟨_, rfl⟩
  have hbl : Below w.heap.size w W := by rw [hW]; exact ((((Below.refl w.heap.size w).alloc (Nat.le_refl _) _).alloc (by simp) _).alloc (by simp; omega) _).alloc (by simp; omega) _
  have hW4 : W.cell? ⟨w.heap.size + 1 + 1, 0, none⟩ = some (.int .i64 0) := by rw [hW]; simp [go_sem]
  have hW5 : W.cell? ⟨w.heap.size + 1 + 1 + 1, 0, none⟩ = some (.int .i64 0) := by rw [hW]; simp [go_sem]
  have hF4 : W.frozen? ⟨w.heap.size + 1 + 1, 0, none⟩ = false := by rw [hW]; simp [go_sem]
  have hF5 : W.frozen? ⟨w.heap.size + 1 + 1 + 1, 0, none⟩ = false := by rw [hW]; simp [go_sem]
  have hsz : W.heap.size = w.heap.size + 4 := by rw [hW]; simp
  have hO := open1_bad a0 a1 A c l ow E W (Kd.C_below hr hbl) hc hE ho
  have hadr : (⟨W.heap.size, 0, none⟩ : Addr) = ⟨w.heap.size + 1 + 1 + 1 + 1, 0, none⟩ := by rw [hsz]
  rw [hadr] at hO
  have HO := Lib.hid hO
  have HBL := Lib.hid hbl
  have HWC := Lib.hid (And.intro hW4 (And.intro hW5 (And.intro hF4 hF5)))
  have hd2 : (E != 0) = true := bne_iff_ne.2 hE
  clear hbl hW4 hW5 hF4 hF5 hsz hadr hO hE ho hr
  go_enter Try.func32, Try.ntmps32
  go_wp2_with fail
  rw [← hW]
  clear hW
  refine (HO.out).mono ?_
  rintro e w1 ⟨rfl, hw1⟩
  have hb2 : Below w1.heap.size w1 (w1.alloc (.cells #[.pointer none] 63)) := (Below.refl _ _).alloc (Nat.le_refl _) _
  have hWW2 := hw1.trans (hb2.mono hw1.size)
  have v4 := (hw1.cell (cell_size HWC.out.1)).trans HWC.out.1
  have v5 := (hw1.cell (cell_size HWC.out.2.1)).trans HWC.out.2.1
  have f4 := (hw1.frozen (cell_size HWC.out.1)).trans HWC.out.2.2.1
  have f5 := (hw1.frozen (cell_size HWC.out.2.1)).trans HWC.out.2.2.2
  have q4 := (hWW2.cell (cell_size HWC.out.1)).trans HWC.out.1
  have q5 := (hWW2.cell (cell_size HWC.out.2.1)).trans HWC.out.2.1
  have g4 := (hWW2.frozen (cell_size HWC.out.1)).trans HWC.out.2.2.1
  have g5 := (hWW2.frozen (cell_size HWC.out.2.1)).trans HWC.out.2.2.2
  have HW2 := Lib.hid (HBL.out.trans (hWW2.mono HBL.out.size))
  clear hb2 hWW2 hw1 HBL HWC HO
  go_wp2
  have y1 : (((w1.alloc (.cells #[.pointer none] 63)).setCell ⟨w.heap.size + 1 + 1, 0, none⟩ (.int .i64 0)).setCell ⟨w.heap.size + 1 + 1 + 1, 0, none⟩ (.int .i64 E)).cell? ⟨w.heap.size + 1 + 1, 0, none⟩ = some (.int .i64 0) := by rw [World.cell?_setCell_other _ _ _ _ (by simp)]; exact World.cell?_setCell_same' _ _ _ (by rw [q4]; rfl)
  have y2 : (((w1.alloc (.cells #[.pointer none] 63)).setCell ⟨w.heap.size + 1 + 1, 0, none⟩ (.int .i64 0)).setCell ⟨w.heap.size + 1 + 1 + 1, 0, none⟩ (.int .i64 E)).cell? ⟨w.heap.size + 1 + 1 + 1, 0, none⟩ = some (.int .i64 E) := World.cell?_setCell_same' _ _ _ (by rw [World.cell?_setCell_other _ _ _ _ (by simp), q5]; rfl)
  refine bodyPost_ret (v := .tuple #[.int .i64 0, .int .i64 E]) ?_ rfl ⟨rfl, (HW2.out.setCell (by simp; omega) _).setCell (by simp; omega) _⟩
  simp [results, Try.results32, go_sem, y1, y2]

/-- what Keep comes to -/
def mark_Keep.f (a0_0 a0_1 : Int) (l0_2 : List Int) (a1 : Int) : Option (Int × Int) :=
  some (if officeN a0_0 a0_1 l0_2 ≠ 0 then (0, officeN a0_0 a0_1 l0_2) else if outB 0 (l0_2.length - 1) a1 then (0, 2) else keepV l0_2 a1)
theorem mark_Keep.calls (a0_0 : Int) (a0_1 : Int) (A0_2 : Option Addr) (c0_2 : Nat) (l0_2 : List Int) (a1 : Int) (r1 : Int) (r2 : Int) (w : World) (hr0_2 : Kd.C (Kd.int .i64) w A0_2 l0_2.length l0_2) (hc0_2 : l0_2.length ≤ c0_2) (h : mark_Keep.f a0_0 a0_1 l0_2 a1 = some (r1, r2)) :
    Calls Try.prog 32 #[.agg #[.int .i64 a0_0, .int .i64 a0_1, .slice A0_2 l0_2.length c0_2], .int .i64 a1] w fun e w' => e = .returned (.tuple #[.int .i64 r1, .int .i64 r2]) ∧ Below w.heap.size w w' := by
  have h' := Option.some.inj h
  clear h
  by_cases ho : officeN a0_0 a0_1 l0_2 ≠ 0
  · rw [if_pos ho] at h'
    cases h'
    exact keep_bad a0_0 a0_1 A0_2 c0_2 l0_2 a1 _ w hr0_2 hc0_2 ho (.inl rfl)
  · rw [if_neg ho] at h'
    have ho' : officeN a0_0 a0_1 l0_2 = 0 := by omega
    cases hw : outB 0 (l0_2.length - 1) a1
    · rw [hw] at h'
      have h2 : keepV l0_2 a1 = (r1, r2) := h'
      have := keep_good a0_0 a0_1 A0_2 c0_2 l0_2 a1 w hr0_2 hc0_2 ho' hw
      rw [h2] at this
      exact this
    · rw [hw] at h'
      cases h'
      exact keep_bad a0_0 a0_1 A0_2 c0_2 l0_2 a1 2 w hr0_2 hc0_2 (by decide) (.inr ⟨ho', hw, rfl⟩)
end Go.Proofs.Ytbhcchhhpmlpmaa.Hand

/- The office of the laws' examples, in the printed form. -/
namespace Go.Proofs.Ytbhcchhhpmlpmaa.Hand
set_option linter.unusedVariables false
set_option linter.unusedSimpArgs false
open Go.RowKit Go.Maps Go.Proofs.YtbhcchhhpmlpmaaW.PrintWords Go.Proofs.YtbhcchhhpmlpmaaW.PrintLast Go.Proofs.YtbhcchhhpmlpmaaW.PrintMore

/-- what Office comes to -/
def peaveylaw01_Office.f (a0 : Int) : Option (Int × Int × List Int) := if a0 = 2 then some (5, 1, [7, 25]) else if a0 = 3 then some (5, 1, [7, 25, 14]) else none

set_option maxHeartbeats 4000000 in
set_option maxRecDepth 100000 in
theorem office_law (n : Nat) (w : World) (hn : n ≤ 3) :
    Calls Try.prog 55 #[.int .i64 (n : Int)] w fun e w' => ∃ v2_ : Value, e = .returned (.agg #[.int .i64 5, .int .i64 1, v2_]) ∧ Kd.R (Kd.int .i64) 3 w' w.heap.size (fun _ => True) v2_ (([7, 25, 14] : List Int).take n) ∧ Below w.heap.size w w' := by
  have hu := Try.underlying24
  have p0 : (0 : Int) ≤ (n : Int) := by omega
  have p1 : (n : Int) ≤ 3 := by omega
  go_enter Try.func55, Try.ntmps55
  go_wp2
  have hh : ((w.alloc (.cells #[.int .i64 5, .int .i64 1, .slice (some ⟨w.heap.size + 1, 0, none⟩) n 3] 24)).alloc (.cells #[.int .i64 7, .int .i64 25, .int .i64 14] 3)).heap[w.heap.size + 1]? = some (.cells #[.int .i64 7, .int .i64 25, .int .i64 14] 3 (0, 0)) := by
    have := heap_alloc_last (w.alloc (.cells #[.int .i64 5, .int .i64 1, .slice (some ⟨w.heap.size + 1, 0, none⟩) n 3] 24)) (.cells #[.int .i64 7, .int .i64 25, .int .i64 14] 3)
    rw [World.size_alloc] at this
    exact this
  refine bodyPost_ret (v := .agg #[.int .i64 5, .int .i64 1, .slice (some ⟨w.heap.size + 1, 0, none⟩) n 3]) (by simp [results, Try.results55, go_sem]) rfl ⟨_, rfl, ?_, ((Below.refl _ _).alloc (Nat.le_refl _) _).alloc (by simp) _⟩
  have hl : (([7, 25, 14] : List Int).take n).length = n := by rw [List.length_take]; simp; omega
  refine Kd.R_of_own (enc := Value.int .i64) (h1 := fun _ => rfl) ?_ (fun _ _ => trivial)
  rw [hl]
  refine ⟨by simp [encs]; omega, .inr ⟨w.heap.size + 1, 3, _, rfl, by omega, hh, hn, by unfold maxLen; omega, rfl, ?_⟩⟩
  rw [Nat.mul_one]
  simp [encs, List.map_take]

theorem peaveylaw01_Office.calls (a0 : Int) (r1 : Int) (r2 : Int) (r3 : List Int) (w : World) (h : peaveylaw01_Office.f a0 = some (r1, r2, r3)) :
    Calls Try.prog 55 #[.int .i64 a0] w fun e w' => ∃ v2_ : Value, e = .returned (.agg #[.int .i64 r1, .int .i64 r2, v2_]) ∧ Kd.R (Kd.int .i64) 3 w' w.heap.size (fun _ => True) v2_ r3 ∧ Below w.heap.size w w' := by
  unfold peaveylaw01_Office.f at h
  split at h
  · rename_i e
    subst e
    cases h
    exact office_law 2 w (by omega)
  · split at h
    · rename_i e
      subst e
      cases h
      exact office_law 3 w (by omega)
    · cases h
end Go.Proofs.Ytbhcchhhpmlpmaa.Hand

/- The laws' examples of marks hold: Works returns true. -/
namespace Go.Proofs.Ytbhcchhhpmlpmaa.Hand
set_option linter.unusedVariables false
set_option linter.unusedSimpArgs false
open Go.RowKit Go.Maps Go.Proofs.YtbhcchhhpmlpmaaW.PrintWords Go.Proofs.YtbhcchhhpmlpmaaW.PrintLast Go.Proofs.YtbhcchhhpmlpmaaW.PrintMore Go.Proofs.Ytbhcchhhpmlpmaa.PrA Go.Proofs.Ytbhcchhhpmlpmaa.PrC

theorem reads_lit (w : World) (l : List Int) (hl : l.length ≤ 100) : Kd.C (Kd.int .i64) (w.alloc (.cells (l.map fun x => Value.int .i64 x).toArray 3)) (some ⟨w.heap.size, 0, none⟩) l.length l :=
  Kd.C_of_reads (d := (0 : Int)) (h1 := fun _ => rfl) ⟨rfl, by omega, fun _ => ⟨_, rfl, fun j hj => by
    rw [show (Addr.add ⟨w.heap.size, 0, none⟩ j) = ⟨w.heap.size, j, none⟩ by by_cases h0 : j = 0 <;> simp [Addr.add, h0]]
    rw [cell_of_row _ _ j _ _ _ (heap_alloc_last w _)]
    simp [hj, List.getD_eq_getElem?_getD]⟩⟩
/-- an office of the examples, in a box -/
def OffAt (w : World) (b : Nat) (A : Option Addr) (c : Nat) (l : List Int) : Prop := RegAt w b 5 1 A c l ∧ Kd.C (Kd.int .i64) w A l.length l ∧ l.length ≤ c
theorem off_below {w w' : World} {b : Nat} {A : Option Addr} {c : Nat} {l : List Int} (h : OffAt w b A c l) (hb : Below w.heap.size w w') : OffAt w' b A c l :=
  ⟨reg_below h.1 hb (cell_size h.1.1), Kd.C_below h.2.1 hb, h.2.2⟩

set_option maxRecDepth 100000 in
theorem ex0 : mark_Owners.f 5 1 [7, 25, 14] 6 = some ([0, 2], 0) := by decide +kernel
set_option maxRecDepth 100000 in
theorem ex1 : mark_Clash.f 5 1 [7, 25, 14] 0 2 = some (6, 0) := by decide +kernel
set_option maxRecDepth 100000 in
theorem ex2 : mark_Clash.f 5 1 [7, 25, 14] 0 1 = some (0, 5) := by decide +kernel
set_option maxRecDepth 100000 in
theorem ex3 : mark_Apart.f 5 1 [7, 25, 14] = some (0, 2, 17) := by decide +kernel
set_option maxRecDepth 100000 in
theorem ex4 : mark_Apart.f 5 1 [7, 25] = some (0, 0, 0) := by decide +kernel
set_option maxRecDepth 100000 in
theorem ex5 : mark_Margin.f 5 1 [7, 25] = some (1, 0) := by decide +kernel
set_option maxRecDepth 100000 in
theorem ex6 : mark_Told.f 5 1 [7, 25, 14] 1 = some (1, 0) := by decide +kernel
set_option maxRecDepth 100000 in
theorem ex7 : mark_Keep.f 5 1 [7, 25, 14] 2 = some (10, 0) := by decide +kernel
set_option maxRecDepth 100000 in
theorem ex8 : mark_Free.f 5 1 [7, 25] = some ([1, 2, 4, 8, 10, 12, 16, 18, 20, 30, 31], 0) := by decide +kernel
set_option maxRecDepth 100000 in
theorem ex9 : mark_Family.f 5 1 [7, 25] [1, 2, 30, 12] = some ([0, 2, 3], 0) := by decide +kernel
set_option maxRecDepth 100000 in
theorem ex10 : mark_CheckFamily.f 5 1 [7, 25] [1, 2, 30, 12] [0, 1] = some 17 := by decide +kernel
theorem is0 : peaveylaw01_Ints.f 20 [0, 2] [0, 2] = some true := by decide +kernel
theorem is1 : peaveylaw01_Ints.f 20 [1, 2, 4, 8, 10, 12, 16, 18, 20, 30, 31] [1, 2, 4, 8, 10, 12, 16, 18, 20, 30, 31] = some true := by decide +kernel
theorem is2 : peaveylaw01_Ints.f 20 [0, 2, 3] [0, 2, 3] = some true := by decide +kernel

set_option maxHeartbeats 16000000 in
set_option maxRecDepth 100000 in
theorem works_true (w : World) : Calls Try.prog 18 #[] w fun e w' => e = .returned (.bool true) ∧ Below w.heap.size w w' := by
  have hu := Try.underlying24
  have HO3 := Lib.hid (fun W => office_law 3 W (by omega))
  have HO2 := Lib.hid (fun W => office_law 2 W (by omega))
  go_enter Try.func18, Try.ntmps18
  go_wp2_with fail
  refine (HO3.out _).mono ?_
  rintro e u1 ⟨v1, rfl, hr1, hu1⟩
  obtain ⟨A1, c1, rfl, hc1, hC1⟩ := Kd.R_reads hr1
  have hl3 : (([7, 25, 14] : List Int).take 3) = [7, 25, 14] := rfl
  rw [hl3] at hc1 hC1 ⊢
  have HA := Lib.hid (And.intro hC1 (And.intro hc1 hu1))
  clear hr1 hu1 hc1 hC1 hl3
  go_wp2_with fail
  refine (HO2.out _).mono ?_
  rintro e u2 ⟨v2, rfl, hr2, hu2⟩
  obtain ⟨A2, c2, rfl, hc2, hC2⟩ := Kd.R_reads hr2
  have hl2 : (([7, 25, 14] : List Int).take 2) = [7, 25] := rfl
  rw [hl2] at hc2 hC2 ⊢
  have HA2 := Lib.hid (And.intro hC2 (And.intro hc2 hu2))
  clear hr2 hu2 hc2 hC2 hl2 HO3 HO2
  obtain ⟨w0, hw0⟩ : ∃ w0, w0 = (u2.alloc (.cells #[.int .i64 5, .int .i64 1, .slice A1 3 c1] 24)).alloc (.cells #[.int .i64 5, .int .i64 1, .slice A2 2 c2] 24) := ⟨_, rfl⟩
  have hb0 : Below u2.heap.size u2 w0 := by rw [hw0]; exact ((Below.refl _ _).alloc (Nat.le_refl _) _).alloc (by simp) _
  have hB0 := Lib.hid ((HA.out.2.2.trans (HA2.out.2.2.mono HA.out.2.2.size)).trans (hb0.mono (Nat.le_trans HA.out.2.2.size HA2.out.2.2.size)))
  have HX0 : Hid (OffAt w0 u2.heap.size A1 c1 [7, 25, 14]) := Lib.hid ⟨by rw [hw0]; refine ⟨?_, ?_, ?_⟩ <;> simp [go_sem], Kd.C_below (Kd.C_below HA.out.1 HA2.out.2.2) hb0, HA.out.2.1⟩
  have HY0 : Hid (OffAt w0 (u2.heap.size + 1) A2 c2 [7, 25]) := Lib.hid ⟨by rw [hw0]; refine ⟨?_, ?_, ?_⟩ <;> simp [go_sem], Kd.C_below HA2.out.1 hb0, HA2.out.2.1⟩
  have q0 := HX0.out.1.1
  have q1 := HX0.out.1.2.1
  have q2 := HX0.out.1.2.2
  rw [hw0] at q0 q1 q2
  clear hb0 HA HA2
  go_wp2_with fail
  rw [← hw0]
  clear hw0 q0 q1 q2
  refine (mark_Owners.calls 5 1 A1 c1 [7, 25, 14] 6 [0, 2] 0 w0 HX0.out.2.1 HX0.out.2.2 ex0).mono ?_
  rintro e w1 ⟨v, rfl, hrv, hw⟩
  obtain ⟨S0, s0, rfl, hs, hC⟩ := Kd.R_reads hrv
  have HS0 := Lib.hid (And.intro hC hs)
  clear hrv hs hC
  have HX1 := Lib.hid (off_below HX0.out hw)
  have HY1 := Lib.hid (off_below HY0.out hw)
  have hB1 := Lib.hid (hB0.out.trans (hw.mono hB0.out.size))
  clear hw HX0 HY0 hB0
  have q0 := HX1.out.1.1
  have q1 := HX1.out.1.2.1
  have q2 := HX1.out.1.2.2
  go_wp2_with fail
  clear q0 q1 q2
  refine (mark_Clash.calls 5 1 A1 c1 [7, 25, 14] 0 2 6 0 w1 HX1.out.2.1 HX1.out.2.2 ex1).mono ?_
  rintro e w2 ⟨rfl, hw⟩
  have HS0 := Lib.hid (And.intro (Kd.C_below HS0.out.1 hw) HS0.out.2)
  have HX2 := Lib.hid (off_below HX1.out hw)
  have HY2 := Lib.hid (off_below HY1.out hw)
  have hB2 := Lib.hid (hB1.out.trans (hw.mono hB1.out.size))
  clear hw HX1 HY1 hB1
  have q0 := HX2.out.1.1
  have q1 := HX2.out.1.2.1
  have q2 := HX2.out.1.2.2
  go_wp2_with fail
  clear q0 q1 q2
  refine (mark_Clash.calls 5 1 A1 c1 [7, 25, 14] 0 1 0 5 w2 HX2.out.2.1 HX2.out.2.2 ex2).mono ?_
  rintro e w3 ⟨rfl, hw⟩
  have HS0 := Lib.hid (And.intro (Kd.C_below HS0.out.1 hw) HS0.out.2)
  have HX3 := Lib.hid (off_below HX2.out hw)
  have HY3 := Lib.hid (off_below HY2.out hw)
  have hB3 := Lib.hid (hB2.out.trans (hw.mono hB2.out.size))
  clear hw HX2 HY2 hB2
  have q0 := HX3.out.1.1
  have q1 := HX3.out.1.2.1
  have q2 := HX3.out.1.2.2
  go_wp2_with fail
  clear q0 q1 q2
  refine (mark_Apart.calls 5 1 A1 c1 [7, 25, 14] 0 2 17 w3 HX3.out.2.1 HX3.out.2.2 ex3).mono ?_
  rintro e w4 ⟨rfl, hw⟩
  have HS0 := Lib.hid (And.intro (Kd.C_below HS0.out.1 hw) HS0.out.2)
  have HX4 := Lib.hid (off_below HX3.out hw)
  have HY4 := Lib.hid (off_below HY3.out hw)
  have hB4 := Lib.hid (hB3.out.trans (hw.mono hB3.out.size))
  clear hw HX3 HY3 hB3
  have q0 := HY4.out.1.1
  have q1 := HY4.out.1.2.1
  have q2 := HY4.out.1.2.2
  go_wp2_with fail
  clear q0 q1 q2
  refine (mark_Apart.calls 5 1 A2 c2 [7, 25] 0 0 0 w4 HY4.out.2.1 HY4.out.2.2 ex4).mono ?_
  rintro e w5 ⟨rfl, hw⟩
  have HS0 := Lib.hid (And.intro (Kd.C_below HS0.out.1 hw) HS0.out.2)
  have HX5 := Lib.hid (off_below HX4.out hw)
  have HY5 := Lib.hid (off_below HY4.out hw)
  have hB5 := Lib.hid (hB4.out.trans (hw.mono hB4.out.size))
  clear hw HX4 HY4 hB4
  have q0 := HY5.out.1.1
  have q1 := HY5.out.1.2.1
  have q2 := HY5.out.1.2.2
  go_wp2_with fail
  clear q0 q1 q2
  refine (mark_Margin.calls 5 1 A2 c2 [7, 25] 1 0 w5 HY5.out.2.1 HY5.out.2.2 ex5).mono ?_
  rintro e w6 ⟨rfl, hw⟩
  have HS0 := Lib.hid (And.intro (Kd.C_below HS0.out.1 hw) HS0.out.2)
  have HX6 := Lib.hid (off_below HX5.out hw)
  have HY6 := Lib.hid (off_below HY5.out hw)
  have hB6 := Lib.hid (hB5.out.trans (hw.mono hB5.out.size))
  clear hw HX5 HY5 hB5
  have q0 := HX6.out.1.1
  have q1 := HX6.out.1.2.1
  have q2 := HX6.out.1.2.2
  go_wp2_with fail
  clear q0 q1 q2
  refine (mark_Told.calls 5 1 A1 c1 [7, 25, 14] 1 1 0 w6 HX6.out.2.1 HX6.out.2.2 ex6).mono ?_
  rintro e w7 ⟨rfl, hw⟩
  have HS0 := Lib.hid (And.intro (Kd.C_below HS0.out.1 hw) HS0.out.2)
  have HX7 := Lib.hid (off_below HX6.out hw)
  have HY7 := Lib.hid (off_below HY6.out hw)
  have hB7 := Lib.hid (hB6.out.trans (hw.mono hB6.out.size))
  clear hw HX6 HY6 hB6
  have q0 := HX7.out.1.1
  have q1 := HX7.out.1.2.1
  have q2 := HX7.out.1.2.2
  go_wp2_with fail
  clear q0 q1 q2
  refine (mark_Keep.calls 5 1 A1 c1 [7, 25, 14] 2 10 0 w7 HX7.out.2.1 HX7.out.2.2 ex7).mono ?_
  rintro e w8 ⟨rfl, hw⟩
  have HS0 := Lib.hid (And.intro (Kd.C_below HS0.out.1 hw) HS0.out.2)
  have HX8 := Lib.hid (off_below HX7.out hw)
  have HY8 := Lib.hid (off_below HY7.out hw)
  have hB8 := Lib.hid (hB7.out.trans (hw.mono hB7.out.size))
  clear hw HX7 HY7 hB7
  have q0 := HY8.out.1.1
  have q1 := HY8.out.1.2.1
  have q2 := HY8.out.1.2.2
  go_wp2_with fail
  clear q0 q1 q2
  refine (mark_Free.calls 5 1 A2 c2 [7, 25] [1, 2, 4, 8, 10, 12, 16, 18, 20, 30, 31] 0 w8 HY8.out.2.1 HY8.out.2.2 ex8).mono ?_
  rintro e w9 ⟨v, rfl, hrv, hw⟩
  obtain ⟨S8, s8, rfl, hs, hC⟩ := Kd.R_reads hrv
  have HS8 := Lib.hid (And.intro hC hs)
  clear hrv hs hC
  have HS0 := Lib.hid (And.intro (Kd.C_below HS0.out.1 hw) HS0.out.2)
  have HX9 := Lib.hid (off_below HX8.out hw)
  have HY9 := Lib.hid (off_below HY8.out hw)
  have hB9 := Lib.hid (hB8.out.trans (hw.mono hB8.out.size))
  clear hw HX8 HY8 hB8
  have q0 := HY9.out.1.1
  have q1 := HY9.out.1.2.1
  have q2 := HY9.out.1.2.2
  go_wp2_with fail
  clear q0 q1 q2
  obtain ⟨x9, hx9⟩ : ∃ x, x = w9.alloc (.cells #[.int .i64 1, .int .i64 2, .int .i64 30, .int .i64 12] 3) := ⟨_, rfl⟩
  have hb_x9 : Below w9.heap.size w9 x9 := by rw [hx9]; exact (Below.refl _ _).alloc (Nat.le_refl _) _
  have HL_x9 := Lib.hid (reads_lit w9 [1, 2, 30, 12] (by decide))
  rw [← hx9]
  have HL9 : Hid (Kd.C (Kd.int .i64) x9 (some ⟨w9.heap.size, 0, none⟩) ([1, 2, 30, 12] : List Int).length [1, 2, 30, 12]) := Lib.hid (by rw [hx9]; exact HL_x9.out)
  clear HL_x9 hx9
  have HZ9 := Lib.hid (off_below HY9.out hb_x9)
  refine (mark_Family.calls 5 1 A2 c2 [7, 25] (some ⟨w9.heap.size, 0, none⟩) 4 [1, 2, 30, 12] [0, 2, 3] 0 x9 HZ9.out.2.1 HZ9.out.2.2 HL9.out (by decide) ex9).mono ?_
  rintro e w10 ⟨v, rfl, hrv, hw'⟩
  obtain ⟨S9, s9, rfl, hs, hC⟩ := Kd.R_reads hrv
  have HS9 := Lib.hid (And.intro hC hs)
  have hw := hb_x9.trans (hw'.mono hb_x9.size)
  clear hrv hs hC hw'
  have HS0 := Lib.hid (And.intro (Kd.C_below HS0.out.1 hw) HS0.out.2)
  have HS8 := Lib.hid (And.intro (Kd.C_below HS8.out.1 hw) HS8.out.2)
  have HY10 := Lib.hid (off_below HY9.out hw)
  have hB10 := Lib.hid (hB9.out.trans (hw.mono hB9.out.size))
  clear hw hb_x9 HX9 HY9 hB9 HZ9 HL9
  have q0 := HY10.out.1.1
  have q1 := HY10.out.1.2.1
  have q2 := HY10.out.1.2.2
  go_wp2_with fail
  clear q0 q1 q2
  obtain ⟨x10, hx10⟩ : ∃ x, x = w10.alloc (.cells #[.int .i64 1, .int .i64 2, .int .i64 30, .int .i64 12] 3) := ⟨_, rfl⟩
  have hb_x10 : Below w10.heap.size w10 x10 := by rw [hx10]; exact (Below.refl _ _).alloc (Nat.le_refl _) _
  have HL_x10 := Lib.hid (reads_lit w10 [1, 2, 30, 12] (by decide))
  have hsz10 : x10.heap.size = w10.heap.size + 1 := by rw [hx10]; simp
  rw [← hx10]
  have HL10 : Hid (Kd.C (Kd.int .i64) x10 (some ⟨w10.heap.size, 0, none⟩) ([1, 2, 30, 12] : List Int).length [1, 2, 30, 12]) := Lib.hid (by rw [hx10]; exact HL_x10.out)
  clear HL_x10 hx10
  obtain ⟨y10, hy10⟩ : ∃ x, x = x10.alloc (.cells #[.int .i64 0, .int .i64 1] 3) := ⟨_, rfl⟩
  have hb_y10 : Below x10.heap.size x10 y10 := by rw [hy10]; exact (Below.refl _ _).alloc (Nat.le_refl _) _
  have HL_y10 := Lib.hid (reads_lit x10 [0, 1] (by decide))
  rw [← hy10]
  have HM10 : Hid (Kd.C (Kd.int .i64) y10 (some ⟨w10.heap.size + 1, 0, none⟩) ([0, 1] : List Int).length [0, 1]) := Lib.hid (by rw [← hsz10, hy10]; exact HL_y10.out)
  clear HL_y10 hy10 hsz10
  have hb := hb_x10.trans (hb_y10.mono hb_x10.size)
  have HZ10 := Lib.hid (off_below HY10.out hb)
  have HLL := Lib.hid (Kd.C_below HL10.out hb_y10)
  refine (mark_CheckFamily.calls 5 1 A2 c2 [7, 25] (some ⟨w10.heap.size, 0, none⟩) 4 [1, 2, 30, 12] (some ⟨w10.heap.size + 1, 0, none⟩) 2 [0, 1] 17 y10 HZ10.out.2.1 HZ10.out.2.2 HLL.out (by decide) HM10.out (by decide) ex10).mono ?_
  rintro e w11 ⟨rfl, hw'⟩
  have hw := hb.trans (hw'.mono hb.size)
  have HS0 := Lib.hid (And.intro (Kd.C_below HS0.out.1 hw) HS0.out.2)
  have HS8 := Lib.hid (And.intro (Kd.C_below HS8.out.1 hw) HS8.out.2)
  have HS9 := Lib.hid (And.intro (Kd.C_below HS9.out.1 hw) HS9.out.2)
  have hB11 := Lib.hid (hB10.out.trans (hw.mono hB10.out.size))
  clear hw hw' hb hb_x10 hb_y10 HY10 hB10 HZ10 HL10 HM10 HLL
  go_wp2_with fail
  obtain ⟨z0, hz0⟩ : ∃ x, x = w11.alloc (.cells #[.int .i64 0, .int .i64 2] 3) := ⟨_, rfl⟩
  have hb_z0 : Below w11.heap.size w11 z0 := by rw [hz0]; exact (Below.refl _ _).alloc (Nat.le_refl _) _
  have HL_z0 := Lib.hid (reads_lit w11 [0, 2] (by decide))
  rw [← hz0]
  have HL : Hid (Kd.C (Kd.int .i64) z0 (some ⟨w11.heap.size, 0, none⟩) ([0, 2] : List Int).length [0, 2]) := Lib.hid (by rw [hz0]; exact HL_z0.out)
  clear HL_z0 hz0
  refine (peaveylaw01_Ints.calls 20 S0 s0 [0, 2] (some ⟨w11.heap.size, 0, none⟩) 2 [0, 2] true z0 (Kd.C_below HS0.out.1 hb_z0) HS0.out.2 HL.out (by decide) is0).mono ?_
  rintro e w12 ⟨rfl, hw'⟩
  have hw := hb_z0.trans (hw'.below.mono hb_z0.size)
  have HS8 := Lib.hid (And.intro (Kd.C_below HS8.out.1 hw) HS8.out.2)
  have HS9 := Lib.hid (And.intro (Kd.C_below HS9.out.1 hw) HS9.out.2)
  have hB12 := Lib.hid (hB11.out.trans (hw.mono hB11.out.size))
  clear hw hw' hb_z0 HL HS0 hB11
  go_wp2_with fail
  obtain ⟨z1, hz1⟩ : ∃ x, x = w12.alloc (.cells #[.int .i64 1, .int .i64 2, .int .i64 4, .int .i64 8, .int .i64 10, .int .i64 12, .int .i64 16, .int .i64 18, .int .i64 20, .int .i64 30, .int .i64 31] 3) := ⟨_, rfl⟩
  have hb_z1 : Below w12.heap.size w12 z1 := by rw [hz1]; exact (Below.refl _ _).alloc (Nat.le_refl _) _
  have HL_z1 := Lib.hid (reads_lit w12 [1, 2, 4, 8, 10, 12, 16, 18, 20, 30, 31] (by decide))
  rw [← hz1]
  have HL : Hid (Kd.C (Kd.int .i64) z1 (some ⟨w12.heap.size, 0, none⟩) ([1, 2, 4, 8, 10, 12, 16, 18, 20, 30, 31] : List Int).length [1, 2, 4, 8, 10, 12, 16, 18, 20, 30, 31]) := Lib.hid (by rw [hz1]; exact HL_z1.out)
  clear HL_z1 hz1
  refine (peaveylaw01_Ints.calls 20 S8 s8 [1, 2, 4, 8, 10, 12, 16, 18, 20, 30, 31] (some ⟨w12.heap.size, 0, none⟩) 11 [1, 2, 4, 8, 10, 12, 16, 18, 20, 30, 31] true z1 (Kd.C_below HS8.out.1 hb_z1) HS8.out.2 HL.out (by decide) is1).mono ?_
  rintro e w13 ⟨rfl, hw'⟩
  have hw := hb_z1.trans (hw'.below.mono hb_z1.size)
  have HS9 := Lib.hid (And.intro (Kd.C_below HS9.out.1 hw) HS9.out.2)
  have hB13 := Lib.hid (hB12.out.trans (hw.mono hB12.out.size))
  clear hw hw' hb_z1 HL HS8 hB12
  go_wp2_with fail
  obtain ⟨z2, hz2⟩ : ∃ x, x = w13.alloc (.cells #[.int .i64 0, .int .i64 2, .int .i64 3] 3) := ⟨_, rfl⟩
  have hb_z2 : Below w13.heap.size w13 z2 := by rw [hz2]; exact (Below.refl _ _).alloc (Nat.le_refl _) _
  have HL_z2 := Lib.hid (reads_lit w13 [0, 2, 3] (by decide))
  rw [← hz2]
  have HL : Hid (Kd.C (Kd.int .i64) z2 (some ⟨w13.heap.size, 0, none⟩) ([0, 2, 3] : List Int).length [0, 2, 3]) := Lib.hid (by rw [hz2]; exact HL_z2.out)
  clear HL_z2 hz2
  refine (peaveylaw01_Ints.calls 20 S9 s9 [0, 2, 3] (some ⟨w13.heap.size, 0, none⟩) 3 [0, 2, 3] true z2 (Kd.C_below HS9.out.1 hb_z2) HS9.out.2 HL.out (by decide) is2).mono ?_
  rintro e w14 ⟨rfl, hw'⟩
  have hw := hb_z2.trans (hw'.below.mono hb_z2.size)
  have hB14 := Lib.hid (hB13.out.trans (hw.mono hB13.out.size))
  clear hw hw' hb_z2 HL HS9 hB13
  go_wp2
  go_ret
  exact ⟨rfl, hB14.out⟩
/-- what Works comes to -/
def peaveylaw01_Works.f (k : Nat) : Option Bool := some true
theorem peaveylaw01_Works.mono : ∀ k, LeO (peaveylaw01_Works.f k) (peaveylaw01_Works.f (k + 1)) := fun _ _ h => h
theorem peaveylaw01_Works.calls (k : Nat) (r : Bool) (w : World) (h : peaveylaw01_Works.f k = some r) : Calls Try.prog 18 #[] w fun e w' => e = .returned (.bool r) ∧ Below w.heap.size w w' := by
  obtain rfl := Option.some.inj h
  exact works_true w
theorem works_k (k : Nat) (h : 20 ≤ k) : peaveylaw01_Works.f k = some true := rfl
end Go.Proofs.Ytbhcchhhpmlpmaa.Hand

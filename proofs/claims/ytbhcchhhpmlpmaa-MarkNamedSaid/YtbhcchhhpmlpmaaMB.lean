/- Texts of the claim, joined: HHeld, HOffice, HSize, HClash, HRows, HLost, HOwn, HOwners, HFree, HClashes, HMargin, HTold, HPair, HApart, HFreed. -/
import Derived.Deep.Draws
import Derived.Deep.QuietTactic
import Derived.BigQuiet
import Derived.WalkKit
import Derived.Below
import Derived.Lib.Hide
import Derived.Test.YtbhcchhhpmlpmaaProg
import Derived.Test.YtbhcchhhpmlpmaaHWithin
import Derived.Test.YtbhcchhhpmlpmaaPrA1
import Derived.RegionTactic
import Derived.Laws.BitsAllLaws
import Derived.Test.YtbhcchhhpmlpmaaPrR1
import Derived.Test.YtbhcchhhpmlpmaaPrR2
import Derived.Laws.Rows
import Derived.Laws.Tables
import Derived.Deep.WholeRow
import Derived.Laws.IdiomCopy
import Derived.Lib.SliceRun
import Derived.ChangeKeysEq
import Derived.DeepKeys
import Derived.Laws.StructEq
import Derived.Great.BuildSlice
import Derived.ArgAppend
import Derived.Maps.AppendAt
import Derived.Laws.CopyOwn
import Derived.WalkMore
import Derived.Maps.OwnOps
import Derived.ScopeJumps
import Derived.DeepKeys4
import Derived.Maps.RangeWalk
import Derived.Maps.OwnSet
/- A region that draws its order, whose operations read cells that stay, and whose callees make memory: one walk in the order of the text. -/
namespace Go.Proofs.Ytbhcchhhpmlpmaa.Hand
set_option linter.unusedVariables false
set_option linter.unusedSimpArgs false
open Go.RowKit

/-- the worlds in which all below a number is as in one world -/
def Kw (n : Nat) (w : World) : Type := {v : World // Below n w v}

instance (n : Nat) (w : World) : Nonempty (Kw n w) := ⟨⟨w, Below.refl n w⟩⟩

theorem wp_region_kept {P : Program} {id : Nat} {Q : Exit → Act → World → Prop} {a : Act} {w : World} {l : List Oper} (n : Nat) (w0 : World) (hm : P.follows .mixedOrders = true) (hB : Region.lexB .any l.toArray = true) (hb : Below n w0 w)
    (h : wpQuiet P l.toArray (fun w' => ∃ x : Kw n w0, w' = x.1) (fun a' => ∀ w', (∃ x : Kw n w0, w' = x.1) → Q .normal a' w') l a) : (Code.region id l.toArray true).wp P Q a w :=
  wp_region_quiet (C := fun w' => ∃ x : Kw n w0, w' = x.1) hm hB ⟨⟨_, hb.drew⟩, rfl⟩ (by simpa using h)

theorem kept_calls {P : Program} {n : Nat} {w0 : World} {f : FuncId} {args : Array Value} {v : Value} (x : Kw n w0) (hn : n ≤ w0.heap.size)
    (h : Calls P f args x.1 fun e w' => e = .returned v ∧ Below x.1.heap.size x.1 w') : Calls P f args x.1 fun e w'' => e = .returned v ∧ ∃ y : Kw n w0, w'' = y.1 :=
  h.mono fun _ w' ⟨h1, h2⟩ => ⟨h1, ⟨⟨w', x.2.trans (h2.mono (Nat.le_trans hn x.2.size))⟩, rfl⟩⟩

theorem kept_cell {n : Nat} {w0 : World} {p : Addr} {v : Value} (hp : p.block < n) (h : w0.cell? p = some v) : ∀ x : Kw n w0, x.1.cell? p = some v :=
  fun x => by rw [x.2.cell hp]; exact h
theorem cell_size {w : World} {p : Addr} {v : Value} (h : w.cell? p = some v) : p.block < w.heap.size := by
  rcases Nat.lt_or_ge p.block w.heap.size with g | g
  · exact g
  · exfalso; simp [World.cell?, Array.getElem?_eq_none g] at h
theorem kept_cell' {w0 : World} {p : Addr} {v : Value} (h : w0.cell? p = some v) : ∀ x : Kw w0.heap.size w0, x.1.cell? p = some v := kept_cell (cell_size h) h
end Go.Proofs.Ytbhcchhhpmlpmaa.Hand

/- Offices: their error, and the register that open makes of them, in plain numbers. -/
namespace Go.Proofs.Ytbhcchhhpmlpmaa.Hand
set_option linter.unusedVariables false
set_option linter.unusedSimpArgs false
open Go.RowKit Go.Proofs.YtbhcchhhpmlpmaaW.PrintWords Go.Proofs.YtbhcchhhpmlpmaaW.PrintLast Go.Proofs.YtbhcchhhpmlpmaaW.PrintMore Go.Proofs.Ytbhcchhhpmlpmaa.PrA

/-- the set of all strokes -/
def allN (a0 : Int) : Int := 2 ^ a0.toNat - 1
/-- the error of an office -/
def officeN (a0 a1 : Int) (l : List Int) : Int :=
  if outB 1 10 a0 || outB 0 a0 a1 then 3 else if 12 < l.length then 6 else if l.any (outB 1 (allN a0)) then 2 else 0

theorem all_eq (a0 a1 : Int) (l : List Int) (h1 : 1 ≤ a0) (h2 : a0 ≤ 10) : mark_all.f a0 a1 l = some (allN a0) := by
  have : a0 = 1 ∨ a0 = 2 ∨ a0 = 3 ∨ a0 = 4 ∨ a0 = 5 ∨ a0 = 6 ∨ a0 = 7 ∨ a0 = 8 ∨ a0 = 9 ∨ a0 = 10 := by omega
  rcases this with rfl | rfl | rfl | rfl | rfl | rfl | rfl | rfl | rfl | rfl <;> (simp only [mark_all.f, allN]; decide +kernel)

theorem office_eq (k : Nat) (a0 a1 : Int) (l : List Int) : mark_CheckOffice.f (k + 1) a0 a1 l = some (officeN a0 a1 l) := by
  simp only [mark_CheckOffice.f, mark_within.f, Option.bind_some, List.any_cons, List.any_nil, Bool.or_false, officeN, Bool.not_not]
  cases h1 : outB 1 10 a0
  · have g1 : 1 ≤ a0 ∧ a0 ≤ 10 := by simp [outB] at h1; omega
    cases h2 : outB 0 a0 a1
    · simp only [mark_CheckOffice.j0, all_eq a0 a1 l g1.1 g1.2, mark_within.f, Option.bind_some]
      by_cases h3 : 12 < l.length
      · have : (l.length : Int) > 12 := by omega
        simp [h3, this]
      · have : ¬ (l.length : Int) > 12 := by omega
        cases h4 : l.any (outB 1 (allN a0)) <;> simp [h3, this]
    · simp [mark_CheckOffice.j0]
  · simp [mark_CheckOffice.j0]

theorem office_zero {a0 a1 : Int} {l : List Int} (h : officeN a0 a1 l = 0) : 1 ≤ a0 ∧ a0 ≤ 10 ∧ 0 ≤ a1 ∧ a1 ≤ a0 ∧ l.length ≤ 12 ∧ ∀ x ∈ l, 1 ≤ x ∧ x ≤ allN a0 := by
  unfold officeN at h
  split at h
  · cases h
  · split at h
    · cases h
    · split at h
      · cases h
      · rename_i g1 g2 g3
        simp [outB] at g1
        refine ⟨by omega, by omega, by omega, by omega, by omega, fun x hx => ?_⟩
        simp only [List.any_eq_true, not_exists, not_and] at g3
        have := g3 x hx
        simp [outB] at this
        omega

theorem checkOffice_any (a0 a1 : Int) (A : Option Addr) (c : Nat) (l : List Int) (w : World) (hr : Kd.C (Kd.int .i64) w A l.length l) (hc : l.length ≤ c) :
    Calls Try.prog 21 #[.agg #[.int .i64 a0, .int .i64 a1, .slice A l.length c]] w fun e w' => e = .returned (.int .i64 (officeN a0 a1 l)) ∧ Below w.heap.size w w' :=
  mark_CheckOffice.calls 1 a0 a1 A c l _ w hr hc (office_eq 0 a0 a1 l)

/-- a register lies in a block -/
def RegAt (w : World) (b : Nat) (a0 a1 : Int) (A : Option Addr) (c : Nat) (l : List Int) : Prop :=
  w.cell? ⟨b, 0, none⟩ = some (.int .i64 a0) ∧ w.cell? ⟨b, 1, none⟩ = some (.int .i64 a1) ∧ w.cell? ⟨b, 2, none⟩ = some (.slice A l.length c)

theorem reg_below {w w' : World} {b : Nat} {a0 a1 : Int} {A : Option Addr} {c : Nat} {l : List Int} (h : RegAt w b a0 a1 A c l) {n : Nat} (hb : Below n w w') (hn : b < n) : RegAt w' b a0 a1 A c l := by
  obtain ⟨h0, h1, h2⟩ := h
  refine ⟨?_, ?_, ?_⟩ <;> (rw [hb.cell (by exact hn)]; assumption)

set_option maxHeartbeats 4000000 in
theorem open_office (a0 a1 : Int) (A : Option Addr) (c : Nat) (l : List Int) (V : Value) (w : World) (hr : Kd.C (Kd.int .i64) w A l.length l) (hc : l.length ≤ c) (ho : officeN a0 a1 l ≠ 0) :
    Calls Try.prog 56 #[.agg #[.int .i64 a0, .int .i64 a1, .slice A l.length c], V] w
      fun e w' => e = .returned (.tuple #[.pointer none, .int .i64 (officeN a0 a1 l)]) ∧ Below w.heap.size w w' := by
  obtain ⟨W, hW⟩ : ∃ W, W = w.alloc (.cells #[.int .i64 a0, .int .i64 a1, .slice A l.length c] 24) := ⟨_, rfl⟩
  have hbl : Below w.heap.size w W := by rw [hW]; exact (Below.refl w.heap.size w).alloc (Nat.le_refl _) _
  have HC := Lib.hid (checkOffice_any a0 a1 A c l W (Kd.C_below hr hbl) hc)
  have HBL := Lib.hid hbl
  obtain ⟨E, hE⟩ : ∃ E, E = officeN a0 a1 l := ⟨_, rfl⟩
  rw [← hE] at ho HC ⊢
  have hd : (E == 0) = false := beq_eq_false_iff_ne.2 ho
  have hd2 : (E != 0) = true := bne_iff_ne.2 ho
  clear hbl hE
  go_enter Try.func56, Try.ntmps56
  go_wp2_with fail
  rw [← hW]
  clear hW
  refine (HC.out).mono ?_
  rintro e w1 ⟨rfl, hw1⟩
  have HW1 := Lib.hid (HBL.out.trans (hw1.mono HBL.out.size))
  clear hw1 HBL HC
  go_wp2
  go_ret2
  exact ⟨rfl, HW1.out⟩

set_option maxHeartbeats 4000000 in
theorem open_owner (a0 a1 : Int) (A : Option Addr) (c : Nat) (l : List Int) (A1 : Option Addr) (c1 : Nat) (l1 : List Int) (w : World) (hr : Kd.C (Kd.int .i64) w A l.length l) (hc : l.length ≤ c)
    (hr1 : Kd.C (Kd.int .i64) w A1 l1.length l1) (hc1 : l1.length ≤ c1) (ho : officeN a0 a1 l = 0) (hn : l1.any (outB 0 (l.length - 1)) = true) :
    Calls Try.prog 56 #[.agg #[.int .i64 a0, .int .i64 a1, .slice A l.length c], .slice A1 l1.length c1] w
      fun e w' => e = .returned (.tuple #[.pointer none, .int .i64 2]) ∧ Below w.heap.size w w' := by
  obtain ⟨W, hW⟩ : ∃ W, W = w.alloc (.cells #[.int .i64 a0, .int .i64 a1, .slice A l.length c] 24) := ⟨_, rfl⟩
  have hbl : Below w.heap.size w W := by rw [hW]; exact (Below.refl w.heap.size w).alloc (Nat.le_refl _) _
  have hB : RegAt W w.heap.size a0 a1 A c l := by rw [hW]; refine ⟨?_, ?_, ?_⟩ <;> simp [go_sem]
  have hC := checkOffice_any a0 a1 A c l W (Kd.C_below hr hbl) hc
  rw [ho] at hC
  have HC := Lib.hid hC
  have HR1 := Lib.hid (Kd.C_below hr1 hbl)
  have HBL := Lib.hid hbl
  have HN := Lib.hid hn
  have hs := cell_size hB.1
  have hln : l.length ≤ 12 := (office_zero ho).2.2.2.2.1
  have hwr : IntKind.i64.wrap ((l.length : Int) - 1) = (l.length : Int) - 1 := IntWalk.i64_in _ (by omega)
  have HI := Lib.hid (fun (W' : World) (h : Kd.C (Kd.int .i64) W' A1 l1.length l1) => mark_within.calls 0 ((l.length : Int) - 1) A1 c1 l1 _ W' h hc1 rfl)
  have HB := Lib.hid hB
  clear hbl hC hn hr hr1 ho hB hln
  go_enter Try.func56, Try.ntmps56
  go_wp2_with fail
  rw [← hW]
  clear hW
  refine (HC.out).mono ?_
  rintro e w1 ⟨rfl, hw1⟩
  obtain ⟨c0, c1, c2⟩ := reg_below HB.out hw1 hs
  have HR2 := Lib.hid (Kd.C_below HR1.out hw1)
  have HW1 := Lib.hid (HBL.out.trans (hw1.mono HBL.out.size))
  clear hw1 HBL HC HB c0 c1 hs
  go_wp2_with fail
  refine (HI.out _ HR2.out).mono ?_
  rintro e w2 ⟨rfl, hw2⟩
  rw [HN.out]
  have HW2 := Lib.hid (HW1.out.trans (hw2.mono HW1.out.size))
  clear hw2 HW1 c2
  go_wp2
  go_ret2
  exact ⟨rfl, HW2.out⟩

set_option maxHeartbeats 4000000 in
theorem open_good (a0 a1 : Int) (A : Option Addr) (c : Nat) (l : List Int) (A1 : Option Addr) (c1 : Nat) (l1 : List Int) (w : World) (hr : Kd.C (Kd.int .i64) w A l.length l) (hc : l.length ≤ c)
    (hr1 : Kd.C (Kd.int .i64) w A1 l1.length l1) (hc1 : l1.length ≤ c1) (ho : officeN a0 a1 l = 0) (hn : l1.any (outB 0 (l.length - 1)) = false) :
    Calls Try.prog 56 #[.agg #[.int .i64 a0, .int .i64 a1, .slice A l.length c], .slice A1 l1.length c1] w
      fun e w' => ∃ b, e = .returned (.tuple #[.pointer (some ⟨b, 0, none⟩), .int .i64 0]) ∧ RegAt w' b a0 a1 A c l ∧ w.heap.size ≤ b ∧ Below w.heap.size w w' := by
  obtain ⟨W, hW⟩ : ∃ W, W = w.alloc (.cells #[.int .i64 a0, .int .i64 a1, .slice A l.length c] 24) := ⟨_, rfl⟩
  have hbl : Below w.heap.size w W := by rw [hW]; exact (Below.refl w.heap.size w).alloc (Nat.le_refl _) _
  have hB : RegAt W w.heap.size a0 a1 A c l := by rw [hW]; refine ⟨?_, ?_, ?_⟩ <;> simp [go_sem]
  have hC := checkOffice_any a0 a1 A c l W (Kd.C_below hr hbl) hc
  rw [ho] at hC
  have HC := Lib.hid hC
  have HR1 := Lib.hid (Kd.C_below hr1 hbl)
  have HBL := Lib.hid hbl
  have HN := Lib.hid hn
  have hs := cell_size hB.1
  have hln : l.length ≤ 12 := (office_zero ho).2.2.2.2.1
  have hwr : IntKind.i64.wrap ((l.length : Int) - 1) = (l.length : Int) - 1 := IntWalk.i64_in _ (by omega)
  have HI := Lib.hid (fun (W' : World) (h : Kd.C (Kd.int .i64) W' A1 l1.length l1) => mark_within.calls 0 ((l.length : Int) - 1) A1 c1 l1 _ W' h hc1 rfl)
  have HB := Lib.hid hB
  clear hbl hC hn hr hr1 ho hB hln
  go_enter Try.func56, Try.ntmps56
  go_wp2_with fail
  rw [← hW]
  clear hW
  refine (HC.out).mono ?_
  rintro e w1 ⟨rfl, hw1⟩
  have hB1 := reg_below HB.out hw1 hs
  obtain ⟨c0, c1, c2⟩ := hB1
  have hs1 := cell_size c0
  have HB1 := Lib.hid (reg_below HB.out hw1 hs)
  have HR2 := Lib.hid (Kd.C_below HR1.out hw1)
  have HW1 := Lib.hid (HBL.out.trans (hw1.mono HBL.out.size))
  clear hw1 HBL HC HB c0 c1 hs
  go_wp2_with fail
  refine (HI.out _ HR2.out).mono ?_
  rintro e w2 ⟨rfl, hw2⟩
  rw [HN.out]
  obtain ⟨g0, g1, g2⟩ := reg_below HB1.out hw2 hs1
  have HW2 := Lib.hid (HW1.out.trans (hw2.mono HW1.out.size))
  have hu24 := Try.underlying24
  clear hw2 HW1 c2 HB1 hs1
  go_wp2
  go_ret2
  exact ⟨_, rfl, by refine ⟨?_, ?_, ?_⟩ <;> simp [go_sem], HW2.out.size, HW2.out.alloc HW2.out.size _⟩
end Go.Proofs.Ytbhcchhhpmlpmaa.Hand

/- How many strokes a set has; sets of strokes as numbers below 1024. -/
namespace Go.Proofs.Ytbhcchhhpmlpmaa.Hand
set_option linter.unusedVariables false
set_option linter.unusedSimpArgs false
open Go.RowKit Go.Proofs.YtbhcchhhpmlpmaaW.PrintWords Go.Proofs.YtbhcchhhpmlpmaaW.PrintLast Go.Proofs.YtbhcchhhpmlpmaaW.PrintMore Go.Proofs.Ytbhcchhhpmlpmaa.PrA Go.Proofs.Ytbhcchhhpmlpmaa.PrR

/-- how many bits a number below 1024 has -/
def pc (n : Nat) : Nat := ((List.range 10).filter fun i => n.testBit i).length
/-- the strokes of one set that are not in another one -/
def dif (a b : Nat) : Nat := a &&& (1023 - b)
/-- what size comes to -/
def szI (x : Int) : Int := (mark_size.f x).getD 0
theorem size_some (x : Int) : (mark_size.f x).isSome = true := by
  unfold mark_size.f bits_OnesCount.f bits_OnesCount64.f
  simp only [Option.bind_some, Option.isSome_some]
theorem size_szI (x : Int) : mark_size.f x = some (szI x) := by
  have h := size_some x
  unfold szI
  cases g : mark_size.f x
  · rw [g] at h; cases h
  · rfl
set_option maxRecDepth 100000 in
theorem szI_table : ∀ n : Nat, n < 1024 → szI (n : Int) = ((pc n : Nat) : Int) := by decide +kernel
set_option maxRecDepth 100000 in
theorem refSize_table : ∀ n : Nat, n < 1024 → peaveyref01_Size.f 12 (n : Int) = some ((pc n : Nat) : Int) := by decide +kernel

theorem i64_and_nat (a b : Nat) (ha : a < 1024) (hb : b < 1024) : bits .and .i64 (a : Int) (b : Int) = ((a &&& b : Nat) : Int) := by
  have hx : a &&& b < 2 ^ 10 := Nat.and_lt_two_pow _ (by omega)
  show IntKind.i64.wrap ((BitVec.ofInt 64 (a : Int) &&& BitVec.ofInt 64 (b : Int)).toNat : Int) = _
  have e1 : (BitVec.ofInt 64 (a : Int)).toNat = a := by rw [BitVec.toNat_ofInt]; omega
  have e2 : (BitVec.ofInt 64 (b : Int)).toNat = b := by rw [BitVec.toNat_ofInt]; omega
  rw [BitVec.toNat_and, e1, e2]
  exact IntWalk.i64_in _ (by omega)

theorem dif_bit (a b i : Nat) (hb : b < 1024) : (dif a b).testBit i = (a.testBit i && (decide (i < 10) && !b.testBit i)) := by
  rw [dif, Nat.testBit_and, show 1023 - b = 2 ^ 10 - (b + 1) by omega, Nat.testBit_two_pow_sub_succ (by omega)]
theorem big_bit (n i : Nat) (h : n < 1024) (hi : 10 ≤ i) : n.testBit i = false := Nat.testBit_lt_two_pow (Nat.lt_of_lt_of_le (show n < 2 ^ 10 from h) (Nat.pow_le_pow_right (by decide) hi))

theorem i64_andNot_nat (a b : Nat) (ha : a < 1024) (hb : b < 1024) : bits .andNot .i64 (a : Int) (b : Int) = ((dif a b : Nat) : Int) := by
  have hx : dif a b < 2 ^ 10 := Nat.and_lt_two_pow _ (by omega)
  show IntKind.i64.wrap ((BitVec.ofInt 64 (a : Int) &&& ~~~BitVec.ofInt 64 (b : Int)).toNat : Int) = _
  have e1 : (BitVec.ofInt 64 (a : Int)).toNat = a := by rw [BitVec.toNat_ofInt]; omega
  have e2 : (BitVec.ofInt 64 (b : Int)).toNat = b := by rw [BitVec.toNat_ofInt]; omega
  rw [BitVec.toNat_and, BitVec.toNat_not, e1, e2]
  have e : a &&& (2 ^ 64 - 1 - b) = dif a b := by
    apply Nat.eq_of_testBit_eq
    intro i
    rw [dif_bit a b i hb, Nat.testBit_and, show 2 ^ 64 - 1 - b = 2 ^ 64 - (b + 1) by omega, Nat.testBit_two_pow_sub_succ (by omega)]
    by_cases hi : i < 10
    · have : i < 64 := by omega
      simp [hi, this]
    · simp [big_bit a i ha (by omega)]
  rw [e]
  exact IntWalk.i64_in _ (by omega)
end Go.Proofs.Ytbhcchhhpmlpmaa.Hand

/- The register's small functions: size, far, clash. -/
namespace Go.Proofs.Ytbhcchhhpmlpmaa.Hand
set_option linter.unusedVariables false
set_option linter.unusedSimpArgs false
open Go.RowKit Go.Proofs.YtbhcchhhpmlpmaaW.PrintWords Go.Proofs.YtbhcchhhpmlpmaaW.PrintLast Go.Proofs.YtbhcchhhpmlpmaaW.PrintMore Go.Proofs.Ytbhcchhhpmlpmaa.PrA

theorem size_any (x : Int) (w : World) : Calls Try.prog 66 #[.int .i64 x] w fun e w' => e = .returned (.int .i64 (szI x)) ∧ Below w.heap.size w w' :=
  (mark_size.calls x _ w (size_szI x)).mono fun _ _ h => ⟨h.1, h.2.below⟩

/-- how far two marks are -/
def farI (a b : Int) : Int := max (szI (bits .andNot .i64 a b)) (szI (bits .andNot .i64 b a))

set_option maxHeartbeats 4000000 in
theorem far_any (p : Value) (a b : Int) (w : World) : Calls Try.prog 65 #[p, .int .i64 a, .int .i64 b] w
    fun e w' => e = .returned (.int .i64 (farI a b)) ∧ Below w.heap.size w w' := by
  have HS1 := Lib.hid (fun W => size_any (bits .andNot .i64 a b) W)
  have HS2 := Lib.hid (fun W => size_any (bits .andNot .i64 b a) W)
  obtain ⟨x, hx⟩ : ∃ x, x = szI (bits .andNot .i64 a b) := ⟨_, rfl⟩
  obtain ⟨y, hy⟩ : ∃ y, y = szI (bits .andNot .i64 b a) := ⟨_, rfl⟩
  rw [farI, ← hx, ← hy]
  rw [← hx] at HS1
  rw [← hy] at HS2
  clear hx hy
  go_enter Try.func65, Try.ntmps65
  go_wp2_with fail
  refine (HS1.out _).mono ?_
  rintro e w1 ⟨rfl, hw1⟩
  have HW1 := Lib.hid hw1
  clear hw1
  go_wp2_with fail
  refine (HS2.out _).mono ?_
  rintro e w2 ⟨rfl, hw2⟩
  have HW2 := Lib.hid (HW1.out.trans (hw2.mono HW1.out.size))
  clear hw2
  go_wp2
  · rw [show max x y = y by omega]
    go_ret
    exact ⟨rfl, HW2.out⟩
  · rw [show max x y = x by omega]
    go_ret
    exact ⟨rfl, HW2.out⟩

set_option maxHeartbeats 4000000 in
theorem clash_any (b0 : Nat) (a0 a1 : Int) (A : Option Addr) (c : Nat) (l : List Int) (a b : Int) (w : World) (hB : RegAt w b0 a0 a1 A c l) :
    Calls Try.prog 60 #[.pointer (some ⟨b0, 0, none⟩), .int .i64 a, .int .i64 b] w
      fun e w' => e = .returned (.bool (decide (farI a b ≤ a1))) ∧ Below w.heap.size w w' := by
  have c1 := kept_cell' hB.2.1
  have HF := Lib.hid (fun W => far_any (.pointer (some ⟨b0, 0, none⟩)) a b W)
  clear hB
  go_enter Try.func60, Try.ntmps60
  go_wp2_with fail
  refine wp_region_kept w.heap.size w (by kernel_rfl) (by kernel_rfl) (Below.refl _ _) ?_
  repeat (go_big_quiet_step (first | with_reducible exact kept_calls _ (Nat.le_refl _) (HF.out _)))
  refine wpQuiet_nil ?_
  rintro _ ⟨X, rfl⟩
  go_wp2
  go_ret
  exact ⟨rfl, X.2⟩
end Go.Proofs.Ytbhcchhhpmlpmaa.Hand

/- Laws on whole rows of cells in a block: cleared, indexed, kept below a mark. -/
namespace Go.Proofs.Ytbhcchhhpmlpmaa.Hand
set_option linter.unusedVariables false
set_option linter.unusedSimpArgs false
open Go.RowKit
section
variable {P : Program}

/-- cells laid one by one over a row -/
def ovr (cs : Array Value) : Nat → List Value → Array Value
  | _, [] => cs
  | o, v :: r => ovr (cs.setIfInBounds o v) (o + 1) r
theorem ovr_size : ∀ (vs : List Value) (cs : Array Value) (o : Nat), (ovr cs o vs).size = cs.size
  | [], _, _ => rfl
  | v :: r, cs, o => by rw [ovr, ovr_size r]; simp
theorem ovr_get : ∀ (vs : List Value) (cs : Array Value) (o j : Nat), o + vs.length ≤ cs.size → (ovr cs o vs)[j]? = if o ≤ j ∧ j < o + vs.length then vs[j - o]? else cs[j]?
  | [], cs, o, j, _ => by rw [ovr, if_neg (by simp)]
  | v :: r, cs, o, j, h => by
    rw [ovr, ovr_get r _ (o + 1) j (by simp at h ⊢; omega)]
    simp only [List.length_cons] at h ⊢
    by_cases h1 : o + 1 ≤ j ∧ j < o + 1 + r.length
    · rw [if_pos h1, if_pos (by omega), show j - o = (j - (o + 1)) + 1 by omega, List.getElem?_cons_succ]
    · rw [if_neg h1]
      by_cases h2 : j = o
      · subst h2
        rw [if_pos (by omega), Nat.sub_self, Array.getElem?_setIfInBounds, if_pos rfl, if_pos (by omega)]; rfl
      · rw [if_neg (by omega), Array.getElem?_setIfInBounds, if_neg (by omega)]
theorem setRow_same (w : World) (b : Nat) (cs : Array Value) (t : TypeId) (fr : Nat × Nat) (h : w.heap[b]? = some (.cells cs t fr)) : w.setRow b cs = w := by
  have hh : (w.setRow b cs).heap = w.heap := by
    apply Array.ext_getElem?
    intro i
    by_cases e : i = b
    · subst e; rw [setRow_heap w i cs cs t fr h, h]
    · rw [setRow_other w b i cs e]
  exact congrArg (fun x : Array Obj => ({ w with heap := x } : World)) hh
theorem setCells_row : ∀ (vs : List Value) (w : World) (b o : Nat) (cs : Array Value) (t : TypeId) (fr : Nat × Nat), w.heap[b]? = some (.cells cs t fr) → w.setCells b o vs = w.setRow b (ovr cs o vs)
  | [], w, b, o, cs, t, fr, h => (setRow_same w b cs t fr h).symm
  | v :: r, w, b, o, cs, t, fr, h => by
    rw [World.setCells, setCell_eq_setRow w b o cs t fr v h, setCells_row r _ b (o + 1) (cs.setIfInBounds o v) t fr (setRow_heap w b cs _ t fr h), setRow_setRow, ovr]

theorem run_clear_row (w : World) (t e ty : TypeId) (z : Value) (ht : P.underlying t = some (.slice e)) (hv : ∀ w, (zeroValue e).run P w = .ok z w) (hz : z.cells = #[z]) (h1 : z.oneCell' = true)
    (b n c : Nat) (hn : 0 < n) (cs : Array Value) (T : TypeId) (hb : w.heap[b]? = some (.cells cs T (0, 0))) (hs : cs.size = n) :
    (Builtin.clear_ #[t] ty #[.slice (some ⟨b, 0, none⟩) n c]).run P w = .ok (.tuple #[]) (w.setRow b (Array.replicate n z)) := by
  rw [Lib.run_clear_slice w t e ty z ht hv hz h1 b 0 n c hn (fun j hj => by rw [Nat.zero_add, cell_of_row w b j cs T (0, 0) hb, Array.getElem?_eq_getElem (by omega)]; rfl) (fun j hj => frozen_of_row w b _ cs T hb)]
  rw [setCells_row _ w b 0 cs T (0, 0) hb]
  congr 2
  apply Array.ext_getElem?
  intro j
  rw [ovr_get _ _ _ _ (by simp; omega)]
  by_cases h : j < n
  · rw [if_pos (by simp; omega)]
    simp [h]
  · rw [if_neg (by simp; omega), Array.getElem?_eq_none (by omega), Array.getElem?_eq_none (by simp; omega)]

theorem run_index_agg (w : World) {T E : TypeId} {n i : Nat} {k : IntKind} {cs : Array Value} {v : Value} (hu : P.underlying T = some (.array n E)) (he : P.plainKey E = true) (hc : P.cellsOf E = 1) (hi : i < n) (hv : cs[i]? = some v) :
    (Instr.index T (.agg cs) (.int k (i : Int))).run P w = .ok v w := by
  have hE : ∃ j, P.info? E = some j := by
    unfold Program.plainKey at he
    cases hq : P.underlying E with
    | none => simp [hq] at he
    | some d => exact info_of_underlying hq
  obtain ⟨j, hj⟩ := hE
  have h2 : ((0 : Int) ≤ (i : Int) ∧ (i : Int) < (n : Int)) := by omega
  simp only [Instr.index, asIntOf, run_underlying hu, Sem.run_bind, Sem.run_pure, Result.andThen_ok, if_pos h2, run_sizeOf w hj, hc, Int.toNat_natCast, Nat.mul_one]
  exact run_part_plain w he hv

theorem below_setRow {B : Nat} {a w : World} (h : Below B a w) {g : Nat} (hp : B ≤ g) (cs : Array Value) : Below B a (w.setRow g cs) :=
  h.trans ⟨rfl, rfl, rfl, by simp, fun k hk => setRow_other w g k cs (by omega)⟩
theorem heap_of_below {B : Nat} {a w : World} (h : Below B a w) {g : Nat} (hg : g < B) {o : Obj} (ho : a.heap[g]? = some o) : w.heap[g]? = some o := (h.block g hg).trans ho
theorem heap_lt {w : World} {g : Nat} {o : Obj} (h : w.heap[g]? = some o) : g < w.heap.size := (Array.getElem?_eq_some_iff.1 h).1
theorem heap_past {w : World} {g : Nat} {o : Obj} (h : w.heap[g]? = some o) (x : Obj) : (w.alloc x).heap[g]? = some o := (Below.heap_alloc w x g (heap_lt h)).trans h
theorem heap_far {w : World} {g : Nat} {o : Obj} (h : w.heap[g]? = some o) {a : Addr} (hn : g ≠ a.block) (v : Value) : (w.setCell a v).heap[g]? = some o := (heap_setCell_other w a g v hn).trans h
theorem heap_farRow {w : World} {g : Nat} {o : Obj} (h : w.heap[g]? = some o) {b : Nat} (hn : g ≠ b) (cs : Array Value) : (w.setRow b cs).heap[g]? = some o := (setRow_other w b g cs hn).trans h

/-- items of two arrays of whole numbers, compared -/
theorem run_eqItems_ints (w : World) (d : Nat) {e : TypeId} (he : P.underlying e = some (.int .i64)) (xs ys : Array Value) (f g : Nat → Int) : ∀ is : List Nat, (∀ i ∈ is, xs[i]? = some (.int .i64 (f i))) → (∀ i ∈ is, ys[i]? = some (.int .i64 (g i))) →
    (Op.eqItems (d + 1) e 1 xs ys is).run P w = .ok (is.all fun i => f i == g i) w
  | [], _, _ => by simp [Op.eqItems]
  | i :: is, hx, hy => by
    have hp : P.plainKey e = true := by simp [Program.plainKey, he]
    have h1 := run_part_plain (P := P) w hp (xs := xs) (off := i * 1) (by rw [Nat.mul_one]; exact hx i (by simp))
    have h2 := run_part_plain (P := P) w hp (xs := ys) (off := i * 1) (by rw [Nat.mul_one]; exact hy i (by simp))
    have ih := run_eqItems_ints w d he xs ys f g is (fun j hj => hx j (by simp [hj])) (fun j hj => hy j (by simp [hj]))
    have h3 := run_equalIn_int w d e .i64 .i64 (f i) (g i) he
    simp only [Op.eqItems, Sem.run_bind, h1, h2, h3, Result.andThen_ok, List.all_cons]
    cases f i == g i
    · simp
    · simpa using ih

/-- '==' of two arrays of whole numbers -/
theorem run_eql_array (w : World) {T e : TypeId} {n : Nat} (hu : P.underlying T = some (.array n e)) (he : P.underlying e = some (.int .i64)) (hc : P.cellsOf e = 1) (xs ys : Array Value) (f g : Nat → Int)
    (hx : ∀ i, i < n → xs[i]? = some (.int .i64 (f i))) (hy : ∀ i, i < n → ys[i]? = some (.int .i64 (g i))) :
    (binOp .eql T (.agg xs) (.agg ys)).run P w = .ok (.bool ((List.range n).all fun i => f i == g i)) w := by
  obtain ⟨i, hi⟩ := info_of_underlying he
  have h := run_equalIn_array w 9999 xs ys hu hi
  rw [hc, run_eqItems_ints w 9998 he xs ys f g _ (fun i hi => hx i (List.mem_range.1 hi)) (fun i hi => hy i (List.mem_range.1 hi))] at h
  simp only [binOp, Op.equal, Op.maxDepth, Sem.run_bind, h, Result.andThen_ok]
  rfl
end
end Go.Proofs.Ytbhcchhhpmlpmaa.Hand

/- How many strokes each mark has lost; whose a worn mark can be. -/
namespace Go.Proofs.Ytbhcchhhpmlpmaa.Hand
set_option linter.unusedVariables false
set_option linter.unusedSimpArgs false
open Go.RowKit Go.Proofs.YtbhcchhhpmlpmaaW.PrintWords Go.Proofs.YtbhcchhhpmlpmaaW.PrintLast Go.Proofs.YtbhcchhhpmlpmaaW.PrintMore Go.Proofs.Ytbhcchhhpmlpmaa.PrA

/-- twelve numbers in cells -/
def cellsOf (f : Nat → Int) : Array Value := ((List.range 12).map fun j => Value.int .i64 (f j)).toArray
theorem cellsOf_size (f : Nat → Int) : (cellsOf f).size = 12 := by simp [cellsOf]
theorem cellsOf_get (f : Nat → Int) (j : Nat) (h : j < 12) : (cellsOf f)[j]? = some (.int .i64 (f j)) := by
  simp [cellsOf, List.getElem?_range h, h]
theorem cellsOf_one (f : Nat → Int) : (cellsOf f).all (·.oneCell') = true := by
  simp [cellsOf, Value.oneCell']
theorem cellsOf_ext {f g : Nat → Int} (h : ∀ j, j < 12 → f j = g j) : cellsOf f = cellsOf g := by
  unfold cellsOf
  congr 1
  exact List.map_congr_left fun j hj => by rw [h j (List.mem_range.1 hj)]
def upd (f : Nat → Int) (i : Nat) (v : Int) : Nat → Int := fun j => if j = i then v else f j
theorem cellsOf_set (f : Nat → Int) (i : Nat) (v : Int) : (cellsOf f).setIfInBounds i (.int .i64 v) = cellsOf (upd f i v) := by
  apply Array.ext_getElem?
  intro j
  by_cases hj : j < 12
  · rw [cellsOf_get _ _ hj, Array.getElem?_setIfInBounds]
    by_cases e : i = j
    · subst e
      rw [if_pos rfl, if_pos (by rw [cellsOf_size]; exact hj)]
      simp [upd]
    · rw [if_neg e, cellsOf_get _ _ hj]
      simp [upd, Ne.symm e]
  · have h1 : (cellsOf (upd f i v)).size ≤ j := by rw [cellsOf_size]; omega
    have h2 : ((cellsOf f).setIfInBounds i (.int .i64 v)).size ≤ j := by rw [Array.size_setIfInBounds, cellsOf_size]; omega
    rw [Array.getElem?_eq_none h1, Array.getElem?_eq_none h2]

theorem zero_row : (Try.prog.info? 89).map (fun i => (i.zero, i.size)) = some (some (.agg (cellsOf fun _ => 0)), 12) := by kernel_rfl
theorem row_key : Try.prog.plainKey 3 = true := by kernel_rfl
theorem row_cells : Try.prog.cellsOf 3 = 1 := by kernel_rfl
theorem row_under : Try.prog.underlying 89 = some (.array 12 3) := by kernel_rfl
theorem built_row : Try.prog.built 89 [] = some (cellsOf fun _ => 0) := by kernel_rfl
theorem zeros_replicate : Array.replicate 12 (Value.int .i64 0) = cellsOf fun _ => 0 := by
  apply Array.ext_getElem?
  intro j
  by_cases h : j < 12
  · rw [cellsOf_get _ _ h]; simp [h]
  · rw [Array.getElem?_eq_none (by simp; omega), Array.getElem?_eq_none (by rw [cellsOf_size]; omega)]

/-- what a mark has lost, 11 if it cannot be -/
def lossI (m worn : Int) : Int := if bits .andNot .i64 worn m = 0 then szI (bits .andNot .i64 m worn) else 11
def lossF (l : List Int) (worn : Int) (k : Nat) : Nat → Int := fun i => if i < k then lossI (rd l i) worn else 0
theorem lossF_zero (l : List Int) (worn : Int) : cellsOf (lossF l worn 0) = cellsOf fun _ => 0 := cellsOf_ext fun _ _ => by simp [lossF]
theorem lossF_one (l : List Int) (worn : Int) (k : Nat) {x : Int} (h : lossI (rd l k) worn = x) : upd (lossF l worn k) k x = lossF l worn (k + 1) := by
  funext j
  simp only [upd, lossF]
  by_cases e : j = k
  · subst e; simp [h]
  · by_cases g : j < k
    · simp [e, g, show j < k + 1 by omega]
    · simp [e, g, show ¬ j < k + 1 by omega]
theorem lossF_two (l : List Int) (worn : Int) (k : Nat) (y : Int) {x : Int} (h : lossI (rd l k) worn = x) : upd (upd (lossF l worn k) k y) k x = lossF l worn (k + 1) := by
  rw [← lossF_one l worn k h]
  funext j
  simp only [upd]
  by_cases e : j = k <;> simp [e]

/-- what lies in memory at a round's head -/
def LostAt (W : World) (B : Nat) (w : World) (l : List Int) (worn : Int) (k : Nat) : Prop :=
  W.heap[B]? = some (.cells (cellsOf fun _ => 0) 89 (0, 0)) ∧ W.heap[B + 1]? = some (.cells (cellsOf (lossF l worn k)) 89 (0, 0)) ∧ Below B w W

theorem LostAt.one {W : World} {B : Nat} {w : World} {l : List Int} {worn : Int} {k : Nat} {x : Int} (h : LostAt W B w l worn k) (hx : lossI (rd l k) worn = x) : LostAt (W.setCell ⟨B + 1, k, none⟩ (.int .i64 x)) B w l worn (k + 1) := by
  refine ⟨heap_far h.1 (by simp) _, ?_, h.2.2.setCell (by simp) _⟩
  have h1 := heap_setCell_same W (B + 1) k _ _ (.int .i64 x) h.2.1
  rw [cellsOf_set, lossF_one l worn k hx] at h1
  exact h1
theorem LostAt.two {W : World} {B : Nat} {w : World} {l : List Int} {worn : Int} {k : Nat} {x : Int} (y : Int) (h : LostAt W B w l worn k) (hx : lossI (rd l k) worn = x) :
    LostAt ((W.setCell ⟨B + 1, k, none⟩ (.int .i64 y)).setCell ⟨B + 1, k, none⟩ (.int .i64 x)) B w l worn (k + 1) := by
  refine ⟨heap_far (heap_far h.1 (by simp) _) (by simp) _, ?_, (h.2.2.setCell (by simp) _).setCell (by simp) _⟩
  have h1 := heap_setCell_same W (B + 1) k _ _ (.int .i64 y) h.2.1
  rw [cellsOf_set] at h1
  have h2 := heap_setCell_same _ (B + 1) k _ _ (.int .i64 x) h1
  rw [cellsOf_set, lossF_two l worn k y hx] at h2
  exact h2
theorem LostAt.past {W W' : World} {B : Nat} {w : World} {l : List Int} {worn : Int} {k : Nat} (h : LostAt W B w l worn k) (hb : Below W.heap.size W W') : LostAt W' B w l worn k := by
  refine ⟨heap_of_below hb (heap_lt h.1) h.1, heap_of_below hb (heap_lt h.2.1) h.2.1, h.2.2.trans (hb.mono (Nat.le_trans (Nat.le_of_lt (heap_lt h.1)) (Nat.le_refl _)))⟩

set_option maxHeartbeats 4000000 in
set_option maxRecDepth 100000 in
theorem lost_any (b0 : Nat) (a0 a1 : Int) (A : Option Addr) (c : Nat) (l : List Int) (worn : Int) (w : World) (hB : RegAt w b0 a0 a1 A c l) (hr : Kd.C (Kd.int .i64) w A l.length l) (hc : l.length ≤ c) (hl : l.length ≤ 12) :
    Calls Try.prog 82 #[.pointer (some ⟨b0, 0, none⟩), .int .i64 worn] w
      fun e w' => e = .returned (.agg (cellsOf (lossF l worn l.length))) ∧ Below w.heap.size w w' := by
  obtain ⟨hz, hs⟩ := zero_of_info zero_row
  have HS := Lib.hid hs
  clear hs
  have hcl : ∀ ty, (Builtin.clear_ #[22] ty #[.slice (some ⟨w.heap.size + 1, 0, none⟩) 12 12]).run Try.prog ((w.alloc (.cells (cellsOf fun _ => 0) 89)).alloc (.cells (cellsOf fun _ => 0) 89)) = .ok (.tuple #[]) (((w.alloc (.cells (cellsOf fun _ => 0) 89)).alloc (.cells (cellsOf fun _ => 0) 89)).setRow (w.heap.size + 1) (cellsOf fun _ => 0)) := fun ty => by
    have h1 := heap_alloc_last (w.alloc (.cells (cellsOf fun _ => 0) 89)) (.cells (cellsOf fun _ => 0) 89)
    rw [World.size_alloc] at h1
    have := run_clear_row (P := Try.prog) _ 22 3 ty (.int .i64 0) Try.underlying22 (fun _ => by kernel_rfl) rfl rfl (w.heap.size + 1) 12 12 (by omega) _ _ h1 (cellsOf_size _)
    rw [zeros_replicate] at this
    exact this
  have hbs := cell_size hB.1
  have hL0 : LostAt (((w.alloc (.cells (cellsOf fun _ => 0) 89)).alloc (.cells (cellsOf fun _ => 0) 89)).setRow (w.heap.size + 1) (cellsOf fun _ => 0)) w.heap.size w l worn 0 := by
    have h1 := heap_alloc_last (w.alloc (.cells (cellsOf fun _ => 0) 89)) (.cells (cellsOf fun _ => 0) 89)
    rw [World.size_alloc] at h1
    refine ⟨?_, ?_, ?_⟩
    · exact heap_farRow (heap_past (heap_alloc_last w _) _) (by omega) _
    · rw [lossF_zero]; exact setRow_heap _ _ _ _ _ _ h1
    · exact below_setRow (((Below.refl _ _).alloc (Nat.le_refl _) _).alloc (by simp) _) (by omega) _
  obtain ⟨d0, d1, d2⟩ := reg_below hB hL0.2.2 hbs
  have HR := Lib.hid hr
  have HL0 := Lib.hid hL0
  have HSZ := Lib.hid size_any
  have HLL := Lib.hid hl
  clear hr hL0 hB
  go_enter Try.func82, Try.ntmps82
  go_wp2_with fail
  clear d0 d1 d2 hcl hz hbs
  go_loopw [15] (fun j wr => ∃ k : Nat, k ≤ l.length ∧ j = .int .i64 k ∧ LostAt wr w.heap.size w l worn k) (fun j _ => 60 - (intOf j).toNat)
  case atStart => exact ⟨0, Nat.zero_le _, rfl, HL0.out⟩
  case round =>
    obtain ⟨k, hk, rfl, hS⟩ := hrel
    have HSt := Lib.hid hS
    clear hS HL0
    by_cases hlt : k < l.length
    · have hlt' : (k : Int) < (l.length : Int) := by omega
      have p0 : (0 : Int) ≤ (k : Int) := by omega
      obtain ⟨ad, rfl, hx⟩ := Kd.at_int HR.out (k : Int) p0 hlt'
      replace hx := (HSt.out.2.2.cell (World.block_lt_of_cell? w _ hx)).trans hx
      rw [Int.toNat_natCast] at hx
      obtain ⟨m, hm⟩ : ∃ m, m = rd l (k : Int) := ⟨_, rfl⟩
      rw [← hm] at hx
      have HM := Lib.hid hm
      have hk12 : (k : Int) < 12 := by omega
      have hkc : k < c := by omega
      clear hm hl hc
      go_wp2_with fail
      refine (HSZ.out _ _).mono ?_
      rintro e w1 ⟨rfl, hw1⟩
      have HS1 := Lib.hid (HSt.out.past hw1)
      clear hx hw1 HSt
      have c1 : w1.cell? ⟨w.heap.size + 1, k, none⟩ = some (.int .i64 0) := by rw [cell_of_row w1 _ k _ _ _ HS1.out.2.1, cellsOf_get _ _ (by omega)]; simp [lossF]
      have f1 : w1.frozen? ⟨w.heap.size + 1, k, none⟩ = false := frozen_of_row w1 _ k _ _ HS1.out.2.1
      obtain ⟨y, hy⟩ : ∃ y, y = szI (bits .andNot .i64 m worn) := ⟨_, rfl⟩
      rw [← hy]
      by_cases g : bits .andNot .i64 worn m = 0
      · have HN := Lib.hid (HS1.out.one (x := y) (by rw [← HM.out, lossI, if_pos g, hy]))
        have g1 : (bits .andNot .i64 worn m != 0) = false := by rw [g]; rfl
        clear hy g
        go_wp2
        go_roundw
        case rel => exact ⟨k + 1, by omega, by go_num, HN.out⟩
        case measure => simp [intOf]; omega
      · have HN := Lib.hid (HS1.out.two (x := 11) y (by rw [← HM.out, lossI, if_neg g]))
        have g1 : (bits .andNot .i64 worn m != 0) = true := bne_iff_ne.2 g
        clear hy g
        go_wp2
        go_roundw
        case rel => exact ⟨k + 1, by omega, by go_num, HN.out⟩
        case measure => simp [intOf]; omega
    · have hke : k = l.length := by omega
      have HK := Lib.hid hke
      clear hke
      have hh := HSt.out.2.1
      have hlt1 := heap_lt hh
      have hw := setRow_heap wr w.heap.size _ (cellsOf (lossF l worn k)) _ _ HSt.out.1
      have hw0 := HSt.out.1
      have hnl : ¬ ((k : Int) < (l.length : Int)) := by omega
      go_wp2_with (first | (refine wpList_load_row rfl 89 (.tmp 5) rfl (w.heap.size + 1) rfl 89 (cellsOf (lossF l worn k)) (0, 0) _ hh row_under rfl HS.out ?_) | (refine wpList_store_rowTo rfl 89 (.tmp 4) (.tmp 33) rfl rfl w.heap.size (cellsOf (lossF l worn k)) rfl rfl 89 _ HSt.out.1 HS.out rfl (cellsOf_one _) ?_))
      refine bodyPost_ret (v := .agg (cellsOf (lossF l worn k))) ?_ rfl ⟨?_, ?_⟩
      · exact results_cell_row Try.results82 _ _ w.heap.size 89 (cellsOf (lossF l worn k)) (0, 0) _ rfl hw row_under rfl HS.out
      · rw [HK.out]
      · exact below_setRow HSt.out.2.2 (Nat.le_refl _) _

/-- can a worn mark be an owner's? -/
def canB (a1 : Int) (l : List Int) (i worn : Int) : Bool := ((List.range 12).all fun j => lossF l worn l.length j == 0) || decide (lossF l worn l.length i.toNat ≤ a1)

set_option maxHeartbeats 4000000 in
set_option maxRecDepth 100000 in
theorem can_any (b0 : Nat) (a0 a1 : Int) (A : Option Addr) (c : Nat) (l : List Int) (i : Nat) (worn : Int) (w : World) (hB : RegAt w b0 a0 a1 A c l) (hr : Kd.C (Kd.int .i64) w A l.length l) (hc : l.length ≤ c) (hl : l.length ≤ 12) (hi : i < l.length) :
    Calls Try.prog 59 #[.pointer (some ⟨b0, 0, none⟩), .int .i64 i, .int .i64 worn] w
      fun e w' => e = .returned (.bool (canB a1 l i worn)) ∧ Below w.heap.size w w' := by
  obtain ⟨hz, hsz⟩ := zero_of_info zero_row
  have HS := Lib.hid hsz
  clear hsz
  have hbs := cell_size hB.1
  have HB := Lib.hid hB
  have HL := Lib.hid (lost_any b0 a0 a1 A c l worn w hB hr hc hl)
  have hbd : ∀ W : World, (Instr.build 89 #[]).run Try.prog W = .ok (.agg (cellsOf fun _ => 0)) W := fun W => run_build W _ _ _ built_row
  obtain ⟨F, hF⟩ : ∃ F, F = lossF l worn l.length := ⟨_, rfl⟩
  have heq : ∀ W : World, (binOp .eql 89 (.agg (cellsOf F)) (.agg (cellsOf fun _ => 0))).run Try.prog W = .ok (.bool ((List.range 12).all fun j => F j == 0)) W := fun W =>
    run_eql_array W row_under Try.underlying3 row_cells _ _ F (fun _ => 0) (fun i hi => cellsOf_get _ _ hi) (fun i hi => cellsOf_get _ _ hi)
  have hst := fun W : World => run_storeCells_new (P := Try.prog) W 89 (cellsOf fun _ => 0) (cellsOf F) (by rw [cellsOf_size]; exact HS.out) (by rw [cellsOf_size, cellsOf_size]) (cellsOf_one _)
  rw [← hF] at HL
  rw [canB, ← hF, Int.toNat_natCast]
  clear hF hB hr hc
  go_enter Try.func59, Try.ntmps59
  go_wp2_with fail
  refine (HL.out).mono ?_
  rintro e w1 ⟨rfl, hw1⟩
  have hst1 := hst w1
  have h7 := heap_alloc_last w1 (.cells (cellsOf F) 89)
  have hb2 : Below w.heap.size w (w1.alloc (.cells (cellsOf F) 89)) := hw1.alloc hw1.size _
  have c7 : (w1.alloc (.cells (cellsOf F) 89)).cell? ⟨w1.heap.size, i, none⟩ = some (.int .i64 (F i)) := by rw [cell_of_row _ _ i _ _ _ h7]; exact cellsOf_get _ _ (by omega)
  have c1 := (reg_below HB.out hb2 hbs).2.1
  have hi12 : (i : Int) < 12 := by omega
  have HB2 := Lib.hid hb2
  clear hst hb2 hw1
  cases hc : (List.range 12).all fun j => F j == 0
  · have HC := Lib.hid hc
    rw [hc] at heq
    clear hc
    go_wp2_with (first | (refine wpList_load_row rfl 89 (.tmp 7) rfl w1.heap.size rfl 89 (cellsOf F) (0, 0) _ h7 row_under rfl HS.out ?_) | fail)
    obtain ⟨W, hW⟩ : ∃ W, W = w1.alloc (.cells (cellsOf F) 89) := ⟨_, rfl⟩
    rw [← hW] at c7 c1 HB2 ⊢
    clear hst1 h7 hW
    have k7 := kept_cell' c7
    have k1 := kept_cell' c1
    clear c7 c1
    refine wp_region_kept W.heap.size W (by kernel_rfl) (by kernel_rfl) (Below.refl _ _) ?_
    repeat (go_big_quiet_step (fail))
    refine wpQuiet_nil ?_
    rintro _ ⟨X, rfl⟩
    go_wp2
    go_ret
    rw [HC.out, Bool.false_or]
    exact ⟨rfl, HB2.out.trans (X.2.mono HB2.out.size)⟩
  · have HC := Lib.hid hc
    rw [hc] at heq
    clear hc
    go_wp2_with (first | (refine wpList_load_row rfl 89 (.tmp 7) rfl w1.heap.size rfl 89 (cellsOf F) (0, 0) _ h7 row_under rfl HS.out ?_) | fail)
    go_ret
    rw [HC.out, Bool.true_or]
    exact ⟨rfl, HB2.out⟩
end Go.Proofs.Ytbhcchhhpmlpmaa.Hand

/- Slices that a walk owns: appended to, made, copied; one or two numbers as the arguments of within. -/
namespace Go.Proofs.Ytbhcchhhpmlpmaa.Hand
set_option linter.unusedVariables false
set_option linter.unusedSimpArgs false
open Go.RowKit Go.Maps Go.Proofs.YtbhcchhhpmlpmaaW.PrintWords Go.Proofs.YtbhcchhhpmlpmaaW.PrintLast Go.Proofs.YtbhcchhhpmlpmaaW.PrintMore

theorem reads1 (w : World) (x : Int) : Kd.C (Kd.int .i64) (w.alloc (.cells #[.int .i64 x] 3)) (some ⟨w.heap.size, 0, none⟩) [x].length [x] :=
  Kd.C_of_reads (d := (0 : Int)) (h1 := fun _ => rfl) ⟨rfl, by simp, fun _ => ⟨_, rfl, fun j hj => by
    obtain rfl : j = 0 := by simpa using hj
    rw [add_plain]; simp⟩⟩
theorem reads2 (w : World) (x y : Int) : Kd.C (Kd.int .i64) (w.alloc (.cells #[.int .i64 x, .int .i64 y] 3)) (some ⟨w.heap.size, 0, none⟩) [x, y].length [x, y] :=
  Kd.C_of_reads (d := (0 : Int)) (h1 := fun _ => rfl) ⟨rfl, by simp, fun _ => ⟨_, rfl, fun j hj => by
    have : j = 0 ∨ j = 1 := by simp at hj; omega
    rw [add_plain]
    rcases this with rfl | rfl <;> simp⟩⟩
theorem out_in {lo hi n : Int} (h : outB lo hi n = false) : lo ≤ n ∧ n ≤ hi := by
  simp only [outB, Bool.or_eq_false_iff, decide_eq_false_iff_not] at h; omega
theorem out_iff (lo hi n : Int) : outB lo hi n = !decide (lo ≤ n ∧ n ≤ hi) := by
  simp only [outB]
  by_cases h1 : n < lo <;> by_cases h2 : hi < n <;> simp [h1, h2] <;> omega
/-- within, told: a world more -/
theorem within1 (lo hi x : Int) (w : World) : Calls Try.prog 57 #[.int .i64 lo, .int .i64 hi, .slice (some ⟨w.heap.size, 0, none⟩) 1 1] (w.alloc (.cells #[.int .i64 x] 3))
    fun e w' => e = .returned (.bool (!outB lo hi x)) ∧ Below w.heap.size w w' := by
  refine (mark_within.calls lo hi _ 1 [x] _ _ (reads1 w x) (Nat.le_refl _) rfl).mono ?_
  rintro e w' ⟨rfl, hb⟩
  exact ⟨by simp, ((Below.refl _ _).alloc (Nat.le_refl _) _).trans (hb.mono (by simp))⟩
theorem within2 (lo hi x y : Int) (w : World) : Calls Try.prog 57 #[.int .i64 lo, .int .i64 hi, .slice (some ⟨w.heap.size, 0, none⟩) 2 2] (w.alloc (.cells #[.int .i64 x, .int .i64 y] 3))
    fun e w' => e = .returned (.bool (!(outB lo hi x || outB lo hi y))) ∧ Below w.heap.size w w' := by
  refine (mark_within.calls lo hi _ 2 [x, y] _ _ (reads2 w x y) (Nat.le_refl _) rfl).mono ?_
  rintro e w' ⟨rfl, hb⟩
  exact ⟨by simp, ((Below.refl _ _).alloc (Nat.le_refl _) _).trans (hb.mono (by simp))⟩

theorem run_cut3 {P : Program} (w : World) (t e : TypeId) (ht : P.underlying t = some (.slice e)) {i : TypeInfo} (hi : P.info? e = some i) (ao : Option Addr) (n cap : Nat) (h : n ≤ cap) :
    (Instr.slice t (.slice ao n cap) none (some (.int .i64 (n : Int))) (some (.int .i64 (n : Int)))).run P w = .ok (.slice ao n n) w := by
  have hel : P.elem t = e := by simp [Program.elem, ht]
  have hu : P.underlying t = some (.slice (P.elem t)) := by rw [hel]; exact ht
  rw [run_slice_hm w t ao n cap hu .i64 .i64 n n (by omega) (by omega) (by omega), hel]
  have : ∀ a : Addr, a.add 0 = a := fun a => rfl
  simp [sizeOf, typeInfo, hi, sliced, Result.andThen, this]
theorem own_out {w : World} {base n : Nat} {e : TypeId} {k : IntKind} {v : Value} {xs : List Int} (h : w.ownsRow base e 1 v n (nums k xs)) :
    ∃ A c, v = .slice A xs.length c ∧ xs.length ≤ c ∧ (A = none → xs.length = 0 ∧ c = 0) ∧ ReadsInt w k A xs.length xs := by
  have hl : xs.length = n := by have := h.1; simp [nums] at this; exact this
  obtain ⟨A, c, rfl, hr⟩ := own_reads h
  rw [hl]
  refine ⟨A, c, rfl, ?_, ?_, hr⟩
  · rcases h.2 with ⟨hv, h0⟩ | ⟨g, cap, cur, hv, _, _, hc, _⟩
    · omega
    · cases hv; exact hc
  · rintro rfl
    rcases h.2 with ⟨hv, h0⟩ | ⟨g, cap, cur, hv, _⟩
    · cases hv; exact ⟨rfl, rfl⟩
    · cases hv
theorem reads_cells {w : World} {k : IntKind} {ao : Option Addr} {xs : List Int} (h : ReadsInt w k ao xs.length xs) (b : Addr) (hb : ao = some b) : ∀ j u, (nums k xs)[j]? = some u → w.cell? (b.add j) = some u := by
  intro j u hu
  have hj : j < xs.length := by
    have := (List.getElem?_eq_some_iff.1 hu).1
    simpa [nums] using this
  obtain ⟨ad, e, hc⟩ := h.2.2 (by omega)
  rw [hb] at e
  cases e
  rw [hc j hj]
  simpa [nums, hj, List.getD_eq_getElem?_getD] using hu
theorem own_block {w : World} {base e size g n cap : Nat} {xs : List Value} (h : w.ownsRow base e size (.slice (some ⟨g, 0, none⟩) n cap) n xs) : ∃ cur : Array Value, w.heap[g]? = some (.cells cur.toList.toArray e (0, 0)) ∧ cur.size = cap * size := by
  rcases h.2 with ⟨hv, _⟩ | ⟨g', cap', cur, hv, _, hh, _, _, hc, _⟩
  · cases hv
  · cases hv; exact ⟨cur, by simpa using hh, hc⟩
theorem below_of_grown {w w1 : World} (h : w.grownBy w1 none) : Below w.heap.size w w1 := (Below.refl _ _).grown h (Nat.le_refl _) (fun j e => by cases e)
theorem reads_some {w : World} {k : IntKind} {ao : Option Addr} {xs : List Int} (h : ReadsInt w k ao xs.length xs) (hp : 0 < xs.length) : ∃ ad, ao = some ad ∧ ∀ j u, (nums k xs)[j]? = some u → w.cell? (ad.add j) = some u := by
  obtain ⟨ad, e, _⟩ := h.2.2 hp
  exact ⟨ad, e, reads_cells h ad e⟩
theorem nums_min (k : IntKind) (xs : List Int) : (nums k xs).length = Nat.min xs.length xs.length := by rw [show (nums k xs).length = xs.length by simp [nums]]; exact (Nat.min_self _).symm
theorem nums_one (k : IntKind) (xs : List Int) : ∀ v ∈ nums k xs, v.oneCell' = true := by simp [nums, Value.oneCell']
theorem own_copied {w : World} {base e g : Nat} {k : IntKind} {cur : List Value} {xs : List Int} (h : w.heap[g]? = some (.cells (splice cur 0 (nums k xs)).toArray e (0, 0))) (hc : cur.length = xs.length) (hb : base ≤ g) (hx : xs.length ≤ maxLen) :
    Kd.R (Kd.int k) e w base (fun _ => True) (.slice (some ⟨g, 0, none⟩) xs.length xs.length) xs := by
  have hs : splice cur 0 (nums k xs) = nums k xs := by
    simp only [splice, List.take_zero, List.nil_append, Nat.zero_add]
    rw [List.drop_eq_nil_of_le (by simp [nums]; omega), List.append_nil]
  rw [hs] at h
  refine Kd.R_of_own (enc := Value.int k) (h1 := fun _ => rfl) ?_ (fun _ _ => trivial)
  refine ⟨by simp [encs], .inr ⟨g, xs.length, (nums k xs).toArray, rfl, hb, h, Nat.le_refl _, hx, by simp [nums], ?_⟩⟩
  rw [List.take_of_length_le (by simp [nums])]
  rfl
theorem infoInt : (Try.prog.info? 3).map (fun i => (i.zero, i.size, i.bytes)) = some (some (.int .i64 0), 1, 8) := by kernel_rfl

end Go.Proofs.Ytbhcchhhpmlpmaa.Hand

/- Owners comes to a plain list. -/
namespace Go.Proofs.Ytbhcchhhpmlpmaa.Hand
set_option linter.unusedVariables false
set_option linter.unusedSimpArgs false
open Go.RowKit Go.Maps Go.Proofs.YtbhcchhhpmlpmaaW.PrintWords Go.Proofs.YtbhcchhhpmlpmaaW.PrintLast Go.Proofs.YtbhcchhhpmlpmaaW.PrintMore Go.Proofs.Ytbhcchhhpmlpmaa.PrA

/-- the first so many owners whose a worn mark can be -/
def ownTo (a1 : Int) (l : List Int) (worn : Int) : Nat → List Int
  | 0 => []
  | k + 1 => ownTo a1 l worn k ++ (if canB a1 l (k : Int) worn then [(k : Int)] else [])
theorem ownTo_length (a1 : Int) (l : List Int) (worn : Int) : ∀ k, (ownTo a1 l worn k).length ≤ k
  | 0 => Nat.le_refl _
  | k + 1 => by
    have := ownTo_length a1 l worn k
    rw [ownTo, List.length_append]
    split <;> simp <;> omega

theorem reads0 (w : World) : Kd.C (Kd.int .i64) w none ([] : List Int).length [] :=
  Kd.C_of_reads (d := (0 : Int)) (h1 := fun _ => rfl) ⟨rfl, by simp, fun h => absurd h (by simp)⟩

theorem open_none (a0 a1 : Int) (A : Option Addr) (c : Nat) (l : List Int) (w : World) (hr : Kd.C (Kd.int .i64) w A l.length l) (hc : l.length ≤ c) (ho : officeN a0 a1 l = 0) :
    Calls Try.prog 56 #[.agg #[.int .i64 a0, .int .i64 a1, .slice A l.length c], .slice none 0 0] w
      fun e w' => ∃ b, e = .returned (.tuple #[.pointer (some ⟨b, 0, none⟩), .int .i64 0]) ∧ RegAt w' b a0 a1 A c l ∧ w.heap.size ≤ b ∧ Below w.heap.size w w' :=
  open_good a0 a1 A c l none 0 [] w hr hc (reads0 w) (Nat.le_refl _) ho rfl

set_option maxHeartbeats 4000000 in
set_option maxRecDepth 100000 in
theorem owners_good (a0 a1 : Int) (A : Option Addr) (c : Nat) (l : List Int) (worn : Int) (w : World) (hr : Kd.C (Kd.int .i64) w A l.length l) (hc : l.length ≤ c) (ho : officeN a0 a1 l = 0) (hw : outB 0 (allN a0) worn = false) :
    Calls Try.prog 19 #[.agg #[.int .i64 a0, .int .i64 a1, .slice A l.length c], .int .i64 worn] w
      fun e w' => ∃ v0_ : Value, e = .returned (.tuple #[v0_, .int .i64 0]) ∧ Kd.R (Kd.int .i64) 3 w' w.heap.size (fun _ => True) v0_ (ownTo a1 l worn l.length) ∧ Below w.heap.size w w' := by
  have hz := office_zero ho
  obtain ⟨W, hW⟩ : ∃ W, W = w.alloc (.cells #[.int .i64 a0, .int .i64 a1, .slice A l.length c] 24) := ⟨_, rfl⟩
  have hbl : Below w.heap.size w W := by rw [hW]; exact (Below.refl w.heap.size w).alloc (Nat.le_refl _) _
  have hB : RegAt W w.heap.size a0 a1 A c l := by rw [hW]; refine ⟨?_, ?_, ?_⟩ <;> simp [go_sem]
  have hs := cell_size hB.1
  have HO := Lib.hid (open_none a0 a1 A c l W (Kd.C_below hr hbl) hc ho)
  have HALL := Lib.hid (fun (W' : World) (h : Kd.C (Kd.int .i64) W' A l.length l) => mark_all.calls a0 a1 A c l _ W' h hc (all_eq a0 a1 l hz.1 hz.2.1))
  have hwi := fun W' => within1 0 (allN a0) worn W'
  rw [hw] at hwi
  have HWI := Lib.hid hwi
  have HBL := Lib.hid hbl
  have HB := Lib.hid hB
  have HR := Lib.hid hr
  have hl12 : l.length ≤ 12 := hz.2.2.2.2.1
  have HCAN := Lib.hid (fun (i b : Nat) (W' : World) (hB : RegAt W' b a0 a1 A c l) (hr : Kd.C (Kd.int .i64) W' A l.length l) (hi : i < l.length) => can_any b a0 a1 A c l i worn W' hB hr hc hl12 hi)
  have HSZ := Lib.hid hs
  clear hbl hB hwi hz ho hw hs hr
  go_enter Try.func19, Try.ntmps19
  go_wp2_with fail
  rw [← hW]
  clear hW
  refine (HO.out).mono ?_
  rintro e w1 ⟨b, rfl, hR1, hb1, hw1⟩
  obtain ⟨c0, c1, c2⟩ := reg_below HB.out hw1 HSZ.out
  have HA1 := Lib.hid (Kd.C_below HR.out (HBL.out.trans (hw1.mono HBL.out.size)))
  have HR1 := Lib.hid (And.intro hR1 (Nat.le_trans HBL.out.size hb1))
  have HW1 := Lib.hid (HBL.out.trans (hw1.mono HBL.out.size))
  clear hR1 hb1 hw1
  have hu24 := Try.underlying24
  go_wp2_with fail
  refine (HALL.out _ HA1.out).mono ?_
  rintro e w2 ⟨rfl, hw2⟩
  have d2 := (hw2.cell (cell_size c2)).trans c2
  have HA2 := Lib.hid (Kd.C_below HA1.out hw2)
  have HR2 := Lib.hid (And.intro (reg_below HR1.out.1 hw2 (cell_size HR1.out.1.1)) HR1.out.2)
  have HW2 := Lib.hid (HW1.out.trans (hw2.mono HW1.out.size))
  clear hw2 c0 c1 c2 HALL HA1 HR1 HW1
  go_wp2_with fail
  refine (HWI.out _).mono ?_
  rintro e w3 ⟨rfl, hw3⟩
  have e2 := (hw3.cell (cell_size d2)).trans d2
  have HA3 := Lib.hid (Kd.C_below HA2.out hw3)
  have HR3 := Lib.hid (And.intro (reg_below HR2.out.1 hw3 (cell_size HR2.out.1.1)) HR2.out.2)
  have HW3 := Lib.hid (HW2.out.trans (hw3.mono HW2.out.size))
  clear hw3 d2 HWI HA2 HR2 HW2
  go_wp2_with fail
  go_loopw [8, 33] (fun v j wr => ∃ (k : Nat) (xs : List Int), k ≤ l.length ∧ j = .int .i64 k ∧ xs.length ≤ k ∧ Hid (xs = ownTo a1 l worn k) ∧ Hid (wr.ownsRow w3.heap.size 3 1 v xs.length (nums .i64 xs) ∧ Below w3.heap.size w3 wr)) (fun _ j _ => 60 - (intOf j).toNat)
  case atStart => exact ⟨0, [], Nat.zero_le _, rfl, Nat.le_refl _, Lib.hid rfl, Lib.hid ⟨⟨rfl, .inl ⟨rfl, rfl⟩⟩, Below.refl _ _⟩⟩
  case round =>
    obtain ⟨k, xs, hk, rfl, hxk, HX, HI⟩ := hrel
    by_cases hlt : k < l.length
    · have hlt' : (k : Int) < (l.length : Int) := by omega
      have hReg := reg_below HR3.out.1 HI.out.2 (cell_size HR3.out.1.1)
      have hKd := Kd.C_below HA3.out HI.out.2
      have HCK := Lib.hid (HCAN.out k b wr hReg hKd hlt)
      clear hReg hKd
      go_wp2_with fail
      refine HCK.out.mono ?_
      rintro e w4 ⟨rfl, hw4⟩
      have HO4 := Lib.hid (pw_own_below HI.out.1 hw4)
      have HB4 := Lib.hid (HI.out.2.trans (hw4.mono HI.out.2.size))
      clear hw4 HCK
      cases hcb : canB a1 l (k : Int) worn
      · have HX2 : Hid (xs = ownTo a1 l worn (k + 1)) := Lib.hid (by rw [ownTo, hcb, HX.out]; simp)
        clear hcb
        go_wp2
        go_roundw
        case rel => exact ⟨k + 1, xs, by omega, by go_num, by omega, HX2, Lib.hid ⟨HO4.out, HB4.out⟩⟩
        case measure => simp [intOf]; omega
      · have HX2 : Hid (xs ++ [(k : Int)] = ownTo a1 l worn (k + 1)) := Lib.hid (by rw [ownTo, hcb, ← HX.out]; simp)
        clear hcb
        go_wp2_with (first | (at_builtin; refine print_append_num (w0 := w3) w3.heap.size rfl (.tmp 40) (.tmp 42) 22 3 .i64 8 rfl Try.underlying22 infoInt (by decide) u8 xs (k : Int) rfl rfl HO4.out HB4.out HB4.out.size (by omega) ?_; intro v5 w5 hown5 hb5 hg5 _; have H5 := Lib.hid (And.intro hown5 hb5); clear hown5 hb5 hg5))
        go_roundw
        case rel => exact ⟨k + 1, xs ++ [(k : Int)], by omega, by go_num, by simp; omega, HX2, Lib.hid ⟨H5.out.1, H5.out.2⟩⟩
        case measure => simp [intOf]; omega
    · have hnl : ¬ ((k : Int) < (l.length : Int)) := by omega
      have HK : Hid (k = l.length) := Lib.hid (by omega)
      obtain ⟨ao, cap, rfl, hpc, hnn, hrd⟩ := own_out HI.out.1
      obtain ⟨i0, hi, hz0, hz1, hz2⟩ := info_parts infoInt
      have hle : w.heap.size ≤ wr.heap.size := Nat.le_trans HW3.out.size HI.out.2.size
      have HBW := Lib.hid (HW3.out.trans (HI.out.2.mono HW3.out.size))
      have HRX := Lib.hid hrd
      have hsz1 : (Try.prog.info? 3).map (·.size) = some 1 := by rw [hi]; exact congrArg some hz1
      have HSZ1 := Lib.hid hsz1
      clear hsz1 hrd hnn e2 hu24
      go_wp2_with (first
        | (at_make; refine wpList_make_full _ rfl _ _ 22 rfl w.heap.size 3 i0 (.int .i64 0) 1 Try.underlying22 hi hz0 hz1 .i64 .i64 _ _ xs.length rfl rfl rfl rfl (by rw [hz2]; omega) (by unfold maxLen; omega) hle ?_; intro w6 hown6 hgrow6; obtain ⟨cur, hcur, hcl⟩ := own_block hown6; have HG6 := Lib.hid hgrow6; have HC6 := Lib.hid hcur; have HRD := Lib.hid (HRX.out.below (below_of_grown hgrow6)); have HB6 := Lib.hid (HBW.out.grown hgrow6 hle (fun j e => by cases e)); clear hown6 hgrow6 hcur)
        | ((with_reducible refine wpList_copy_splice (o := ⟨some 50, _, _, _, _, _⟩) ?_ (.tmp 48) (.tmp 49) 22 22 ?_ 3 Try.underlying22 HSZ1.out (some ⟨wr.heap.size, 0, none⟩) ao xs.length xs.length xs.length cap ?_ ?_ wr.heap.size 0 cur.toList 3 ?_ (nums .i64 xs) ?_ ?_ ?_ ?_ w.heap.size w HB6.out hle ?_); rfl; rfl; (repeat rfl); (exact HC6.out); (exact nums_min _ _); (exact fun hp => ⟨rfl, reads_some HRD.out (by simpa [nums] using hp)⟩); (simp [nums]; omega); (exact nums_one _ _); intro w7 hw7 hb7; have H7 := Lib.hid (And.intro hw7 hb7); clear hw7 hb7))
      go_ret2
      exact ⟨_, rfl, by rw [← HK.out, ← HX.out]; exact own_copied H7.out.1 (by rw [Array.length_toList, hcl, Nat.mul_one]) hle (by unfold maxLen; omega), H7.out.2⟩

set_option maxHeartbeats 4000000 in
theorem owners_office (a0 a1 : Int) (A : Option Addr) (c : Nat) (l : List Int) (worn : Int) (w : World) (hr : Kd.C (Kd.int .i64) w A l.length l) (hc : l.length ≤ c) (ho : officeN a0 a1 l ≠ 0) :
    Calls Try.prog 19 #[.agg #[.int .i64 a0, .int .i64 a1, .slice A l.length c], .int .i64 worn] w
      fun e w' => e = .returned (.tuple #[.slice none 0 0, .int .i64 (officeN a0 a1 l)]) ∧ Below w.heap.size w w' := by
  obtain ⟨W, hW⟩ : ∃ W, W = w.alloc (.cells #[.int .i64 a0, .int .i64 a1, .slice A l.length c] 24) := ⟨_, rfl⟩
  have hbl : Below w.heap.size w W := by rw [hW]; exact (Below.refl w.heap.size w).alloc (Nat.le_refl _) _
  have HC := Lib.hid (open_office a0 a1 A c l (.slice none 0 0) W (Kd.C_below hr hbl) hc ho)
  have HBL := Lib.hid hbl
  obtain ⟨E, hE⟩ : ∃ E, E = officeN a0 a1 l := ⟨_, rfl⟩
  rw [← hE] at ho HC ⊢
  have hd2 : (E != 0) = true := bne_iff_ne.2 ho
  clear hbl hE
  go_enter Try.func19, Try.ntmps19
  go_wp2_with fail
  rw [← hW]
  clear hW
  refine (HC.out).mono ?_
  rintro e w1 ⟨rfl, hw1⟩
  have HW1 := Lib.hid (HBL.out.trans (hw1.mono HBL.out.size))
  clear hw1 HBL HC
  go_wp2
  go_ret2
  exact ⟨rfl, HW1.out⟩

set_option maxHeartbeats 4000000 in
theorem owners_worn (a0 a1 : Int) (A : Option Addr) (c : Nat) (l : List Int) (worn : Int) (w : World) (hr : Kd.C (Kd.int .i64) w A l.length l) (hc : l.length ≤ c) (ho : officeN a0 a1 l = 0) (hw : outB 0 (allN a0) worn = true) :
    Calls Try.prog 19 #[.agg #[.int .i64 a0, .int .i64 a1, .slice A l.length c], .int .i64 worn] w
      fun e w' => e = .returned (.tuple #[.slice none 0 0, .int .i64 3]) ∧ Below w.heap.size w w' := by
  have hz := office_zero ho
  obtain ⟨W, hW⟩ : ∃ W, W = w.alloc (.cells #[.int .i64 a0, .int .i64 a1, .slice A l.length c] 24) := ⟨_, rfl⟩
  have hbl : Below w.heap.size w W := by rw [hW]; exact (Below.refl w.heap.size w).alloc (Nat.le_refl _) _
  have hB : RegAt W w.heap.size a0 a1 A c l := by rw [hW]; refine ⟨?_, ?_, ?_⟩ <;> simp [go_sem]
  have HO := Lib.hid (open_none a0 a1 A c l W (Kd.C_below hr hbl) hc ho)
  have HALL := Lib.hid (fun (W' : World) (h : Kd.C (Kd.int .i64) W' A l.length l) => mark_all.calls a0 a1 A c l _ W' h hc (all_eq a0 a1 l hz.1 hz.2.1))
  have hwi := fun W' => within1 0 (allN a0) worn W'
  rw [hw] at hwi
  have HWI := Lib.hid hwi
  have HBL := Lib.hid hbl
  have HSZ := Lib.hid (cell_size hB.1)
  have HB := Lib.hid hB
  have HR := Lib.hid hr
  clear hbl hB hwi hz ho hw hr
  go_enter Try.func19, Try.ntmps19
  go_wp2_with fail
  rw [← hW]
  clear hW
  refine (HO.out).mono ?_
  rintro e w1 ⟨b, rfl, -, -, hw1⟩
  obtain ⟨c0, c1, c2⟩ := reg_below HB.out hw1 HSZ.out
  have HA1 := Lib.hid (Kd.C_below HR.out (HBL.out.trans (hw1.mono HBL.out.size)))
  have HW1 := Lib.hid (HBL.out.trans (hw1.mono HBL.out.size))
  clear hw1
  have hu24 := Try.underlying24
  go_wp2_with fail
  refine (HALL.out _ HA1.out).mono ?_
  rintro e w2 ⟨rfl, hw2⟩
  have HW2 := Lib.hid (HW1.out.trans (hw2.mono HW1.out.size))
  clear hw2 c0 c1 c2 HALL HA1 HW1
  go_wp2_with fail
  refine (HWI.out _).mono ?_
  rintro e w3 ⟨rfl, hw3⟩
  have HW3 := Lib.hid (HW2.out.trans (hw3.mono HW2.out.size))
  clear hw3 HWI HW2
  go_wp2
  go_ret2
  exact ⟨rfl, HW3.out⟩

/-- what Owners comes to -/
def mark_Owners.f (a0_0 a0_1 : Int) (l0_2 : List Int) (a1 : Int) : Option (List Int × Int) :=
  some (if officeN a0_0 a0_1 l0_2 ≠ 0 then ([], officeN a0_0 a0_1 l0_2) else if outB 0 (allN a0_0) a1 then ([], 3) else (ownTo a0_1 l0_2 a1 l0_2.length, 0))
theorem mark_Owners.calls (a0_0 : Int) (a0_1 : Int) (A0_2 : Option Addr) (c0_2 : Nat) (l0_2 : List Int) (a1 : Int) (r1 : List Int) (r2 : Int) (w : World) (hr0_2 : Kd.C (Kd.int .i64) w A0_2 l0_2.length l0_2) (hc0_2 : l0_2.length ≤ c0_2) (h : mark_Owners.f a0_0 a0_1 l0_2 a1 = some (r1, r2)) :
    Calls Try.prog 19 #[.agg #[.int .i64 a0_0, .int .i64 a0_1, .slice A0_2 l0_2.length c0_2], .int .i64 a1] w fun e w' => ∃ v0_ : Value, e = .returned (.tuple #[v0_, .int .i64 r2]) ∧ Kd.R (Kd.int .i64) 3 w' w.heap.size (fun _ => True) v0_ r1 ∧ Below w.heap.size w w' := by
  have h' := Option.some.inj h
  clear h
  by_cases ho : officeN a0_0 a0_1 l0_2 ≠ 0
  · rw [if_pos ho] at h'
    cases h'
    exact (owners_office a0_0 a0_1 A0_2 c0_2 l0_2 a1 w hr0_2 hc0_2 ho).mono fun _ _ h => ⟨_, h.1, Kd.R_nil _ _ _ _ _, h.2⟩
  · rw [if_neg ho] at h'
    have ho' : officeN a0_0 a0_1 l0_2 = 0 := by omega
    cases hw : outB 0 (allN a0_0) a1
    · rw [hw] at h'
      cases h'
      exact owners_good a0_0 a0_1 A0_2 c0_2 l0_2 a1 w hr0_2 hc0_2 ho' hw
    · rw [hw] at h'
      cases h'
      exact (owners_worn a0_0 a0_1 A0_2 c0_2 l0_2 a1 w hr0_2 hc0_2 ho' hw).mono fun _ _ h => ⟨_, h.1, Kd.R_nil _ _ _ _ _, h.2⟩
end Go.Proofs.Ytbhcchhhpmlpmaa.Hand

/- Is a mark free? The function first with the closure of free. -/
namespace Go.Proofs.Ytbhcchhhpmlpmaa.Hand
set_option linter.unusedVariables false
set_option linter.unusedSimpArgs false
open Go.RowKit Go.Maps Go.Proofs.YtbhcchhhpmlpmaaW.PrintWords Go.Proofs.YtbhcchhhpmlpmaaW.PrintLast Go.Proofs.YtbhcchhhpmlpmaaW.PrintMore Go.Proofs.Ytbhcchhhpmlpmaa.PrA

/-- what the closure of free looks at -/
def FreeAt (w : World) (B1 B2 b : Nat) (a0 a1 : Int) (A : Option Addr) (c : Nat) (l : List Int) (m : Int) : Prop :=
  w.cell? ⟨B1, 0, none⟩ = some (.pointer (some ⟨b, 0, none⟩)) ∧ w.cell? ⟨B2, 0, none⟩ = some (.int .i64 m) ∧ RegAt w b a0 a1 A c l
theorem free_below {w w' : World} {B1 B2 b : Nat} {a0 a1 : Int} {A : Option Addr} {c : Nat} {l : List Int} {m : Int} (h : FreeAt w B1 B2 b a0 a1 A c l m) (hb : Below w.heap.size w w') : FreeAt w' B1 B2 b a0 a1 A c l m :=
  ⟨(hb.cell (cell_size h.1)).trans h.1, (hb.cell (cell_size h.2.1)).trans h.2.1, reg_below h.2.2 hb (cell_size h.2.2.1)⟩
/-- does a mark clash with another one? -/
def clashB (a1 m x : Int) : Bool := decide (farI m x ≤ a1)

set_option maxHeartbeats 1000000 in
theorem lit_free (i x : Int) (B1 B2 b : Nat) (a0 a1 : Int) (A : Option Addr) (c : Nat) (l : List Int) (m : Int) (w : World) (h : FreeAt w B1 B2 b a0 a1 A c l m) :
    Calls Try.prog 88 #[.int .i64 i, .int .i64 x, .pointer (some ⟨B1, 0, none⟩), .pointer (some ⟨B2, 0, none⟩)] w fun e w' => e = .returned (.bool (clashB a1 m x)) ∧ Below w.heap.size w w' := by
  have HC := Lib.hid (clash_any b a0 a1 A c l m x w h.2.2)
  obtain ⟨h1, h2, -⟩ := h
  rw [clashB]
  go_enter Try.func88, Try.ntmps88
  go_wp2_with fail
  refine HC.out.mono ?_
  rintro e w1 ⟨rfl, hw1⟩
  have HW := Lib.hid hw1
  clear hw1 h1 h2
  go_wp2
  go_ret
  exact ⟨rfl, HW.out⟩

set_option maxHeartbeats 2000000 in
theorem first_free (B1 B2 b : Nat) (a0 a1 : Int) (A : Option Addr) (c : Nat) (l : List Int) (m : Int) (w : World) (h : FreeAt w B1 B2 b a0 a1 A c l m) (hr : Kd.C (Kd.int .i64) w A l.length l) (hc : l.length ≤ c) :
    Calls Try.prog 86 #[.slice A l.length c, .func (.func 88) #[] #[.pointer (some ⟨B1, 0, none⟩), .pointer (some ⟨B2, 0, none⟩)]] w
      fun e w' => (∃ r : Int, e = .returned (.int .i64 r) ∧ decide (r < 0) = !l.any (clashB a1 m)) ∧ Below w.heap.size w w' := by
  have hm : l.length ≤ 9223372036854775807 := hr.2.1
  have HR := Lib.hid hr
  have HL := Lib.hid (fun (i x : Int) (W : World) (hb : Below w.heap.size w W) => lit_free i x B1 B2 b a0 a1 A c l m W (free_below h hb))
  clear hr h
  go_enter Try.func86, Try.ntmps86
  go_wp2
  go_loopw [9] (fun i wr => ∃ k : Nat, k ≤ l.length ∧ i = .int .i64 k ∧ Hid ((l.take k).any (clashB a1 m) = false) ∧ Hid (Below w.heap.size w wr)) (fun i _ => l.length - (intOf i).toNat)
  case atStart => exact ⟨0, Nat.zero_le _, rfl, Lib.hid (by simp), Lib.hid (Below.refl _ _)⟩
  case round =>
    obtain ⟨k, hk, rfl, HA, HB⟩ := hrel
    by_cases hlt : k < l.length
    · obtain ⟨ad, e1, hx⟩ := Kd.at_int HR.out (k : Int) (by omega) (by omega)
      cases e1
      have hs := any_take_succ (clashB a1 m) l k hlt
      have hh := any_hit (clashB a1 m) l k hlt
      have hl : rd l (k : Int) = l[k] := by simp [rd, hlt]
      rw [hl, Int.toNat_natCast] at hx
      replace hx := (HB.out.cell (World.block_lt_of_cell? w _ hx)).trans hx
      obtain ⟨x, hx'⟩ : ∃ x, x = l[k] := ⟨_, rfl⟩
      rw [← hx'] at hx hs hh
      have HS := Lib.hid hs
      have HH := Lib.hid hh
      have HLX := Lib.hid (HL.out (k : Int) x wr HB.out)
      clear hs hl hh hx'
      go_wp2_with fail
      refine HLX.out.mono ?_
      rintro e w1 ⟨rfl, hw1⟩
      have HB1 := Lib.hid (HB.out.trans (hw1.mono HB.out.size))
      clear hw1 hx
      cases hb : clashB a1 m x
      · have HV := Lib.hid hb
        clear hb
        go_wp2
        go_roundw
        case rel => exact ⟨k + 1, by omega, by go_num, Lib.hid (by rw [HS.out, HA.out, HV.out]; rfl), HB1⟩
        case measure => simp [intOf]; omega
      · have HV := Lib.hid hb
        clear hb
        go_wp2
        go_ret
        exact ⟨⟨k, rfl, by rw [HH.out HV.out]; simp⟩, HB1.out⟩
    · go_wp2
      go_ret
      refine ⟨⟨-1, rfl, ?_⟩, HB.out⟩
      have := HA.out
      rw [List.take_of_length_le (by omega)] at this
      rw [this]; rfl

set_option maxHeartbeats 2000000 in
theorem isFree_any (b : Nat) (a0 a1 : Int) (A : Option Addr) (c : Nat) (l : List Int) (m : Int) (w : World) (hB : RegAt w b a0 a1 A c l) (hr : Kd.C (Kd.int .i64) w A l.length l) (hc : l.length ≤ c) :
    Calls Try.prog 70 #[.pointer (some ⟨b, 0, none⟩), .int .i64 m] w
      fun e w' => e = .returned (.bool (!l.any (clashB a1 m))) ∧ Below w.heap.size w w' := by
  obtain ⟨W, hW⟩ : ∃ W, W = (w.alloc (.cells #[.pointer (some ⟨b, 0, none⟩)] 63)).alloc (.cells #[.int .i64 m] 3) := ⟨_, rfl⟩
  have hbl : Below w.heap.size w W := by rw [hW]; exact ((Below.refl w.heap.size w).alloc (Nat.le_refl _) _).alloc (by simp) _
  have hF : FreeAt W w.heap.size (w.heap.size + 1) b a0 a1 A c l m := ⟨by rw [hW]; simp [go_sem], by rw [hW]; simp [go_sem], reg_below hB hbl (cell_size hB.1)⟩
  have HF := Lib.hid (first_free w.heap.size (w.heap.size + 1) b a0 a1 A c l m W hF (Kd.C_below hr hbl) hc)
  have HBL := Lib.hid hbl
  obtain ⟨d1, d2, e0, e1, e2⟩ := hF
  clear hbl hr hB
  rw [hW] at d1 e2
  go_enter Try.func70, Try.ntmps70
  go_wp2_with fail
  rw [← hW]
  clear hW d1 d2 e0 e1 e2
  refine HF.out.mono ?_
  rintro e w1 ⟨⟨r, rfl, hd⟩, hw1⟩
  have HW := Lib.hid (HBL.out.trans (hw1.mono HBL.out.size))
  have HD := Lib.hid hd
  clear hw1 hd
  go_wp2
  go_ret
  exact ⟨(by rw [← HD.out]; rfl), HW.out⟩
end Go.Proofs.Ytbhcchhhpmlpmaa.Hand

/- Clash comes to a plain value. -/
namespace Go.Proofs.Ytbhcchhhpmlpmaa.Hand
set_option linter.unusedVariables false
set_option linter.unusedSimpArgs false
open Go.RowKit Go.Maps Go.Proofs.YtbhcchhhpmlpmaaW.PrintWords Go.Proofs.YtbhcchhhpmlpmaaW.PrintLast Go.Proofs.YtbhcchhhpmlpmaaW.PrintMore Go.Proofs.Ytbhcchhhpmlpmaa.PrA

/-- what Clash comes to in a valid office with both owners -/
def clashV (a1 : Int) (l : List Int) (one two : Int) : Int × Int :=
  if one = two then (0, 16) else if farI (rd l one) (rd l two) ≤ a1 then (bits .and .i64 (rd l one) (rd l two), 0) else (0, 5)

theorem open2_good (a0 a1 : Int) (A : Option Addr) (c : Nat) (l : List Int) (x y : Int) (w : World) (hr : Kd.C (Kd.int .i64) w A l.length l) (hc : l.length ≤ c) (ho : officeN a0 a1 l = 0) (hn : (outB 0 (l.length - 1) x || outB 0 (l.length - 1) y) = false) :
    Calls Try.prog 56 #[.agg #[.int .i64 a0, .int .i64 a1, .slice A l.length c], .slice (some ⟨w.heap.size, 0, none⟩) 2 2] (w.alloc (.cells #[.int .i64 x, .int .i64 y] 3))
      fun e w' => ∃ b, e = .returned (.tuple #[.pointer (some ⟨b, 0, none⟩), .int .i64 0]) ∧ RegAt w' b a0 a1 A c l ∧ w.heap.size ≤ b ∧ Below w.heap.size w w' := by
  have hb : Below w.heap.size w (w.alloc (.cells #[.int .i64 x, .int .i64 y] 3)) := (Below.refl _ _).alloc (Nat.le_refl _) _
  refine (open_good a0 a1 A c l _ 2 [x, y] _ (Kd.C_below hr hb) hc (reads2 w x y) (Nat.le_refl _) ho (by simpa using hn)).mono ?_
  rintro e w' ⟨b, rfl, h1, h2, h3⟩
  exact ⟨b, rfl, h1, Nat.le_trans hb.size h2, hb.trans (h3.mono hb.size)⟩
theorem open2_owner (a0 a1 : Int) (A : Option Addr) (c : Nat) (l : List Int) (x y : Int) (w : World) (hr : Kd.C (Kd.int .i64) w A l.length l) (hc : l.length ≤ c) (ho : officeN a0 a1 l = 0) (hn : (outB 0 (l.length - 1) x || outB 0 (l.length - 1) y) = true) :
    Calls Try.prog 56 #[.agg #[.int .i64 a0, .int .i64 a1, .slice A l.length c], .slice (some ⟨w.heap.size, 0, none⟩) 2 2] (w.alloc (.cells #[.int .i64 x, .int .i64 y] 3))
      fun e w' => e = .returned (.tuple #[.pointer none, .int .i64 2]) ∧ Below w.heap.size w w' := by
  have hb : Below w.heap.size w (w.alloc (.cells #[.int .i64 x, .int .i64 y] 3)) := (Below.refl _ _).alloc (Nat.le_refl _) _
  refine (open_owner a0 a1 A c l _ 2 [x, y] _ (Kd.C_below hr hb) hc (reads2 w x y) (Nat.le_refl _) ho (by simpa using hn)).mono ?_
  rintro e w' ⟨rfl, h3⟩
  exact ⟨rfl, hb.trans (h3.mono hb.size)⟩
theorem open2_office (a0 a1 : Int) (A : Option Addr) (c : Nat) (l : List Int) (x y : Int) (w : World) (hr : Kd.C (Kd.int .i64) w A l.length l) (hc : l.length ≤ c) (ho : officeN a0 a1 l ≠ 0) :
    Calls Try.prog 56 #[.agg #[.int .i64 a0, .int .i64 a1, .slice A l.length c], .slice (some ⟨w.heap.size, 0, none⟩) 2 2] (w.alloc (.cells #[.int .i64 x, .int .i64 y] 3))
      fun e w' => e = .returned (.tuple #[.pointer none, .int .i64 (officeN a0 a1 l)]) ∧ Below w.heap.size w w' := by
  have hb : Below w.heap.size w (w.alloc (.cells #[.int .i64 x, .int .i64 y] 3)) := (Below.refl _ _).alloc (Nat.le_refl _) _
  refine (open_office a0 a1 A c l _ _ (Kd.C_below hr hb) hc ho).mono ?_
  rintro e w' ⟨rfl, h3⟩
  exact ⟨rfl, hb.trans (h3.mono hb.size)⟩

set_option maxHeartbeats 4000000 in
theorem clash_bad (a0 a1 : Int) (A : Option Addr) (c : Nat) (l : List Int) (one two E : Int) (w : World) (hr : Kd.C (Kd.int .i64) w A l.length l) (hc : l.length ≤ c) (hE : E ≠ 0)
    (ho : officeN a0 a1 l = E ∨ (officeN a0 a1 l = 0 ∧ (outB 0 (l.length - 1) one || outB 0 (l.length - 1) two) = true ∧ E = 2)) :
    Calls Try.prog 24 #[.agg #[.int .i64 a0, .int .i64 a1, .slice A l.length c], .int .i64 one, .int .i64 two] w
      fun e w' => e = .returned (.tuple #[.int .i64 0, .int .i64 E]) ∧ Below w.heap.size w w' := by
  obtain ⟨W, hW⟩ : ∃ W, W = w.alloc (.cells #[.int .i64 a0, .int .i64 a1, .slice A l.length c] 24) := ⟨_, rfl⟩
  have hbl : Below w.heap.size w W := by rw [hW]; exact (Below.refl w.heap.size w).alloc (Nat.le_refl _) _
  have hC : Calls Try.prog 56 #[.agg #[.int .i64 a0, .int .i64 a1, .slice A l.length c], .slice (some ⟨W.heap.size, 0, none⟩) 2 2] (W.alloc (.cells #[.int .i64 one, .int .i64 two] 3))
      fun e w' => e = .returned (.tuple #[.pointer none, .int .i64 E]) ∧ Below W.heap.size W w' := by
    rcases ho with h | ⟨h1, h2, rfl⟩
    · have := open2_office a0 a1 A c l one two W (Kd.C_below hr hbl) hc (by rw [h]; exact hE)
      rw [h] at this
      exact this
    · exact open2_owner a0 a1 A c l one two W (Kd.C_below hr hbl) hc h1 h2
  have hsz : (⟨W.heap.size, 0, none⟩ : Addr) = ⟨w.heap.size + 1, 0, none⟩ := by rw [hW]; simp
  rw [hsz] at hC
  have HC := Lib.hid hC
  have HBL := Lib.hid hbl
  have hd2 : (E != 0) = true := bne_iff_ne.2 hE
  clear hbl hE hC ho
  go_enter Try.func24, Try.ntmps24
  go_wp2_with fail
  rw [← hW]
  clear hW
  refine (HC.out).mono ?_
  rintro e w1 ⟨rfl, hw1⟩
  have HW1 := Lib.hid (HBL.out.trans (hw1.mono HBL.out.size))
  clear hw1 HBL HC
  go_wp2
  go_ret2
  exact ⟨rfl, HW1.out⟩

set_option maxHeartbeats 4000000 in
set_option maxRecDepth 100000 in
theorem clash_good (a0 a1 : Int) (A : Option Addr) (c : Nat) (l : List Int) (one two : Int) (w : World) (hr : Kd.C (Kd.int .i64) w A l.length l) (hc : l.length ≤ c) (ho : officeN a0 a1 l = 0) (hn : (outB 0 (l.length - 1) one || outB 0 (l.length - 1) two) = false) :
    Calls Try.prog 24 #[.agg #[.int .i64 a0, .int .i64 a1, .slice A l.length c], .int .i64 one, .int .i64 two] w
      fun e w' => e = .returned (.tuple #[.int .i64 (clashV a1 l one two).1, .int .i64 (clashV a1 l one two).2]) ∧ Below w.heap.size w w' := by
  obtain ⟨W, hW⟩ : ∃ W, W = w.alloc (.cells #[.int .i64 a0, .int .i64 a1, .slice A l.length c] 24) := ⟨_, rfl⟩
  have hbl : Below w.heap.size w W := by rw [hW]; exact (Below.refl w.heap.size w).alloc (Nat.le_refl _) _
  have hB : RegAt W w.heap.size a0 a1 A c l := by rw [hW]; refine ⟨?_, ?_, ?_⟩ <;> simp [go_sem]
  have hC := open2_good a0 a1 A c l one two W (Kd.C_below hr hbl) hc ho hn
  have hsz : (⟨W.heap.size, 0, none⟩ : Addr) = ⟨w.heap.size + 1, 0, none⟩ := by rw [hW]; simp
  rw [hsz] at hC
  have HC := Lib.hid hC
  clear hC hsz
  have HBL := Lib.hid hbl
  have HSZ := Lib.hid (cell_size hB.1)
  have HB := Lib.hid hB
  simp only [Bool.or_eq_false_iff] at hn
  have n1 := out_in hn.1
  have n2 := out_in hn.2
  have p1 : 0 ≤ one := n1.1
  have p2 : one < (l.length : Int) := by omega
  have p3 : 0 ≤ two := n2.1
  have p4 : two < (l.length : Int) := by omega
  obtain ⟨ad, rfl, x1⟩ := Kd.at_int hr one p1 p2
  obtain ⟨ad', e', x2⟩ := Kd.at_int hr two p3 p4
  cases e'
  obtain ⟨m1, hm1⟩ : ∃ m, m = rd l one := ⟨_, rfl⟩
  obtain ⟨m2, hm2⟩ : ∃ m, m = rd l two := ⟨_, rfl⟩
  obtain ⟨R, hR⟩ : ∃ R, R = clashV a1 l one two := ⟨_, rfl⟩
  rw [← hR]
  rw [clashV, ← hm1, ← hm2] at hR
  have HRR := Lib.hid hR
  clear hR
  rw [← hm1] at x1
  rw [← hm2] at x2
  have HX1 := Lib.hid x1
  have HX2 := Lib.hid x2
  clear hm1 hm2 x1 x2 n1 n2 hn hr hbl hB ho
  go_enter Try.func24, Try.ntmps24
  go_wp2_with fail
  rw [← hW]
  clear hW
  refine (HC.out).mono ?_
  rintro e w1 ⟨b, rfl, hR1, hb1, hw1⟩
  obtain ⟨-, -, c2⟩ := reg_below HB.out hw1 HSZ.out
  have HW1 := Lib.hid (HBL.out.trans (hw1.mono HBL.out.size))
  have HR1 := Lib.hid hR1
  have x1 := (HW1.out.cell (World.block_lt_of_cell? w _ HX1.out)).trans HX1.out
  have x2 := (HW1.out.cell (World.block_lt_of_cell? w _ HX2.out)).trans HX2.out
  clear hR1 hb1 hw1 HBL HC HB HX1 HX2
  by_cases he : one = two
  · have he' : (one == two) = true := beq_iff_eq.2 he
    have HE := Lib.hid he
    clear he c2 x1 x2
    go_wp2
    go_ret2
    exact ⟨(by rw [HRR.out, if_pos HE.out]; first | done | rfl), HW1.out⟩
  · have he' : (one == two) = false := beq_eq_false_iff_ne.2 he
    have HE := Lib.hid he
    have k2 := kept_cell' c2
    have y1 := kept_cell' x1
    have y2 := kept_cell' x2
    have HK := Lib.hid (And.intro c2 (And.intro x1 x2))
    have HF := Lib.hid (fun (X : Kw w1.heap.size w1) => clash_any b a0 a1 (some ad) c l m1 m2 X.1 (reg_below HR1.out X.2 (cell_size HR1.out.1)))
    clear he c2 x1 x2
    go_wp2_with fail
    refine wp_region_kept w1.heap.size w1 (by kernel_rfl) (by kernel_rfl) (Below.refl _ _) ?_
    repeat (go_big_quiet_step (first | with_reducible exact kept_calls _ (Nat.le_refl _) (HF.out _)))
    refine wpQuiet_nil ?_
    rintro _ ⟨X, rfl⟩
    clear k2 y1 y2
    by_cases hf : farI m1 m2 ≤ a1
    · have hf' : decide (farI m1 m2 ≤ a1) = true := decide_eq_true hf
      have HFF := Lib.hid hf
      rw [hf']
      have c2 := kept_cell' HK.out.1 X
      have x1 := kept_cell' HK.out.2.1 X
      have x2 := kept_cell' HK.out.2.2 X
      clear hf hf'
      go_wp2_with fail
      obtain ⟨W2, hW2⟩ : ∃ W2, W2 = X.1 := ⟨_, rfl⟩
      have HX := Lib.hid X.2
      rw [← hW2] at c2 x1 x2 HX ⊢
      have k2 := kept_cell' c2
      have y1 := kept_cell' x1
      have y2 := kept_cell' x2
      clear hW2 c2 x1 x2
      refine wp_region_kept W2.heap.size W2 (by kernel_rfl) (by kernel_rfl) (Below.refl _ _) ?_
      repeat (go_big_quiet_step (fail))
      refine wpQuiet_nil ?_
      rintro _ ⟨Y, rfl⟩
      go_wp2
      go_ret2
      have HX2 := HX.out.trans (Y.2.mono HX.out.size)
      exact ⟨(by rw [HRR.out, if_neg HE.out, if_pos HFF.out]; first | done | rfl), HW1.out.trans (HX2.mono HW1.out.size)⟩
    · have hf' : decide (farI m1 m2 ≤ a1) = false := decide_eq_false hf
      have HFF := Lib.hid hf
      rw [hf']
      clear hf hf'
      go_wp2
      go_ret2
      exact ⟨(by rw [HRR.out, if_neg HE.out, if_neg (Int.not_le.2 HFF.out)]; first | done | rfl), HW1.out.trans (X.2.mono HW1.out.size)⟩

/-- what Clash comes to -/
def mark_Clash.f (a0_0 a0_1 : Int) (l0_2 : List Int) (a1 a2 : Int) : Option (Int × Int) :=
  some (if officeN a0_0 a0_1 l0_2 ≠ 0 then (0, officeN a0_0 a0_1 l0_2) else if outB 0 (l0_2.length - 1) a1 || outB 0 (l0_2.length - 1) a2 then (0, 2) else clashV a0_1 l0_2 a1 a2)
theorem mark_Clash.calls (a0_0 : Int) (a0_1 : Int) (A0_2 : Option Addr) (c0_2 : Nat) (l0_2 : List Int) (a1 : Int) (a2 : Int) (r1 : Int) (r2 : Int) (w : World) (hr0_2 : Kd.C (Kd.int .i64) w A0_2 l0_2.length l0_2) (hc0_2 : l0_2.length ≤ c0_2) (h : mark_Clash.f a0_0 a0_1 l0_2 a1 a2 = some (r1, r2)) :
    Calls Try.prog 24 #[.agg #[.int .i64 a0_0, .int .i64 a0_1, .slice A0_2 l0_2.length c0_2], .int .i64 a1, .int .i64 a2] w fun e w' => e = .returned (.tuple #[.int .i64 r1, .int .i64 r2]) ∧ Below w.heap.size w w' := by
  have h' := Option.some.inj h
  clear h
  by_cases ho : officeN a0_0 a0_1 l0_2 ≠ 0
  · rw [if_pos ho] at h'
    cases h'
    exact clash_bad a0_0 a0_1 A0_2 c0_2 l0_2 a1 a2 _ w hr0_2 hc0_2 ho (.inl rfl)
  · rw [if_neg ho] at h'
    have ho' : officeN a0_0 a0_1 l0_2 = 0 := by omega
    cases hw : (outB 0 (l0_2.length - 1) a1 || outB 0 (l0_2.length - 1) a2)
    · rw [hw] at h'
      have h2 : clashV a0_1 l0_2 a1 a2 = (r1, r2) := h'
      have := clash_good a0_0 a0_1 A0_2 c0_2 l0_2 a1 a2 w hr0_2 hc0_2 ho' hw
      rw [h2] at this
      exact this
    · rw [hw] at h'
      cases h'
      exact clash_bad a0_0 a0_1 A0_2 c0_2 l0_2 a1 a2 2 w hr0_2 hc0_2 (by decide) (.inr ⟨ho', hw, rfl⟩)
end Go.Proofs.Ytbhcchhhpmlpmaa.Hand

/- Margin comes to a plain value. -/
namespace Go.Proofs.Ytbhcchhhpmlpmaa.Hand
set_option linter.unusedVariables false
set_option linter.unusedSimpArgs false
open Go.RowKit Go.Maps Go.Proofs.YtbhcchhhpmlpmaaW.PrintWords Go.Proofs.YtbhcchhhpmlpmaaW.PrintLast Go.Proofs.YtbhcchhhpmlpmaaW.PrintMore Go.Proofs.Ytbhcchhhpmlpmaa.PrA

theorem pc_le (n : Nat) : pc n ≤ 10 := by
  unfold pc
  have := List.length_filter_le (fun i => n.testBit i) (List.range 10)
  simpa using this
theorem dif_lt (a b : Nat) : dif a b < 1024 := Nat.lt_of_le_of_lt (Nat.and_le_right) (by omega)
/-- how far two marks below 1024 are -/
theorem farI_nat (a b : Nat) (ha : a < 1024) (hb : b < 1024) : farI (a : Int) (b : Int) = ((max (pc (dif a b)) (pc (dif b a)) : Nat) : Int) := by
  rw [farI, i64_andNot_nat a b ha hb, i64_andNot_nat b a hb ha, szI_table _ (dif_lt _ _), szI_table _ (dif_lt _ _)]
  omega
theorem allN_lt {a0 : Int} (h : a0 ≤ 10) : allN a0 < 1024 := by
  unfold allN
  have h1 : 2 ^ a0.toNat ≤ 2 ^ 10 := Nat.pow_le_pow_right (by decide) (by omega)
  have h2 : (2 : Int) ^ a0.toNat = ((2 ^ a0.toNat : Nat) : Int) := by simp
  rw [h2]
  omega
theorem farI_le {a b : Int} (h1 : 0 ≤ a) (h2 : a < 1024) (h3 : 0 ≤ b) (h4 : b < 1024) : 0 ≤ farI a b ∧ farI a b ≤ 10 := by
  obtain ⟨n, rfl⟩ := Int.eq_ofNat_of_zero_le h1
  obtain ⟨m, rfl⟩ := Int.eq_ofNat_of_zero_le h3
  rw [farI_nat n m (by omega) (by omega)]
  have := pc_le (dif n m)
  have := pc_le (dif m n)
  omega
theorem mark_bound {a0 a1 : Int} {l : List Int} (ho : officeN a0 a1 l = 0) (k : Nat) (h : k < l.length) : 1 ≤ rd l k ∧ rd l k < 1024 := by
  have hz := office_zero ho
  have : rd l (k : Int) = l[k] := by simp [rd, h]
  have h1 := hz.2.2.2.2.2 l[k] (List.getElem_mem h)
  have := allN_lt hz.2.1
  omega
theorem far_bound {a0 a1 : Int} {l : List Int} (ho : officeN a0 a1 l = 0) (i j : Nat) (hi : i < l.length) (hj : j < l.length) : 0 ≤ farI (rd l i) (rd l j) ∧ farI (rd l i) (rd l j) ≤ 10 := by
  have h1 := mark_bound ho i hi
  have h2 := mark_bound ho j hj
  exact farI_le (by omega) h1.2 (by omega) h2.2

/-- one mark's part of the margin -/
def marIn (l : List Int) (i : Nat) (m : Int) : Nat → Int
  | 0 => m
  | j + 1 => min (marIn l i m j) (farI (rd l i) (rd l j) - 1)
/-- the margin of the first so many marks -/
def marOut (a0 : Int) (l : List Int) : Nat → Int
  | 0 => a0
  | i + 1 => marIn l i (marOut a0 l i) i

set_option maxHeartbeats 4000000 in
set_option maxRecDepth 100000 in
theorem margin_good (a0 a1 : Int) (A : Option Addr) (c : Nat) (l : List Int) (w : World) (hr : Kd.C (Kd.int .i64) w A l.length l) (hc : l.length ≤ c) (ho : officeN a0 a1 l = 0) :
    Calls Try.prog 28 #[.agg #[.int .i64 a0, .int .i64 a1, .slice A l.length c]] w
      fun e w' => e = .returned (.tuple #[.int .i64 (marOut a0 l l.length), .int .i64 0]) ∧ Below w.heap.size w w' := by
  have hz := office_zero ho
  obtain ⟨W, hW⟩ : ∃ W, W = w.alloc (.cells #[.int .i64 a0, .int .i64 a1, .slice A l.length c] 24) := ⟨_, rfl⟩
  have hbl : Below w.heap.size w W := by rw [hW]; exact (Below.refl w.heap.size w).alloc (Nat.le_refl _) _
  have hB : RegAt W w.heap.size a0 a1 A c l := by rw [hW]; refine ⟨?_, ?_, ?_⟩ <;> simp [go_sem]
  have HO := Lib.hid (open_none a0 a1 A c l W (Kd.C_below hr hbl) hc ho)
  have HBL := Lib.hid hbl
  have HB := Lib.hid hB
  have HR := Lib.hid hr
  have hl12 : l.length ≤ 12 := hz.2.2.2.2.1
  have HFB := Lib.hid (fun i j => far_bound (l := l) ho i j)
  have HFAR := Lib.hid far_any
  have HSZ := Lib.hid (cell_size hB.1)
  clear hbl hB hz ho hr
  go_enter Try.func28, Try.ntmps28
  go_wp2_with fail
  rw [← hW]
  clear hW
  refine (HO.out).mono ?_
  rintro e w1 ⟨b, rfl, hR1, hb1, hw1⟩
  obtain ⟨c0, c1, c2⟩ := reg_below HB.out hw1 HSZ.out
  have HC := Lib.hid (reg_below HB.out hw1 HSZ.out)
  have HA1 := Lib.hid (Kd.C_below HR.out (HBL.out.trans (hw1.mono HBL.out.size)))
  have HW1 := Lib.hid (HBL.out.trans (hw1.mono HBL.out.size))
  clear hR1 hb1 hw1
  go_wp2_with fail
  clear c0 c1 c2
  go_loopw [6, 24] (fun m i wr => ∃ (k : Nat) (v : Int), k ≤ l.length ∧ i = .int .i64 k ∧ m = .int .i64 v ∧ Hid (v = marOut a0 l k) ∧ Hid (Below w1.heap.size w1 wr)) (fun _ i _ => 60 - (intOf i).toNat)
  case atStart => exact ⟨0, a0, Nat.zero_le _, rfl, rfl, Lib.hid rfl, Lib.hid (Below.refl _ _)⟩
  case round =>
    obtain ⟨k, v, hk, rfl, rfl, HV, HI⟩ := hrel
    by_cases hlt : k < l.length
    · have hlt' : (k : Int) < (l.length : Int) := by omega
      have p0 : (0 : Int) ≤ (k : Int) := by omega
      obtain ⟨ad, rfl, hx⟩ := Kd.at_int (Kd.C_below HA1.out HI.out) (k : Int) p0 hlt'
      rw [Int.toNat_natCast] at hx
      obtain ⟨m, hm⟩ : ∃ m, m = rd l (k : Int) := ⟨_, rfl⟩
      rw [← hm] at hx
      obtain ⟨-, -, e2⟩ := reg_below HC.out HI.out (cell_size HC.out.1)
      have HM := Lib.hid hm
      have hkc : (k : Int) ≤ (c : Int) := by omega
      have hkc' : k ≤ c := by omega
      clear hm
      obtain ⟨wo, rfl⟩ : ∃ wo : World, wo = wr := ⟨_, rfl⟩
      go_wp2_with fail
      clear hx e2
      go_loopw [6, 34] (fun x i wr => ∃ (j : Nat) (u : Int), j ≤ k ∧ i = .int .i64 j ∧ x = .int .i64 u ∧ Hid (u = marIn l k v j) ∧ Hid (Below wo.heap.size wo wr)) (fun _ i _ => 60 - (intOf i).toNat)
      case atStart => exact ⟨0, v, Nat.zero_le _, rfl, rfl, Lib.hid rfl, Lib.hid (Below.refl _ _)⟩
      case round =>
        obtain ⟨j, u, hj, rfl, rfl, HU, HJ⟩ := hrel
        by_cases hlj : j < k
        · have hlj' : (j : Int) < (k : Int) := by omega
          have q0 : (0 : Int) ≤ (j : Int) := by omega
          have hbb := HI.out.trans (HJ.out.mono HI.out.size)
          obtain ⟨ad', e', hy⟩ := Kd.at_int (Kd.C_below HA1.out hbb) (j : Int) q0 (by omega)
          cases e'
          rw [Int.toNat_natCast] at hy
          have hfb := HFB.out k j hlt (by omega)
          rw [← HM.out] at hfb
          obtain ⟨n, hn⟩ : ∃ n, n = rd l (j : Int) := ⟨_, rfl⟩
          rw [← hn] at hy hfb
          have HN := Lib.hid hn
          have HF := Lib.hid (HFAR.out (.pointer (some ⟨b, 0, none⟩)) m n wr)
          obtain ⟨f, hf⟩ : ∃ f, f = farI m n := ⟨_, rfl⟩
          rw [← hf] at hfb HF
          have HFF := Lib.hid hf
          have f1 := hfb.1
          have f2 := hfb.2
          clear hn hf hbb hfb
          go_wp2_with fail
          refine HF.out.mono ?_
          rintro e w2 ⟨rfl, hw2⟩
          have HW2 := Lib.hid (HJ.out.trans (hw2.mono HJ.out.size))
          clear hw2 hy HF
          have HU2 : Hid (min u (f - 1) = marIn l k v (j + 1)) := Lib.hid (by rw [marIn, ← HU.out, HFF.out, HM.out, HN.out])
          go_wp2
          all_goals
            go_roundw
            case rel => exact ⟨j + 1, _, by omega, by go_num, rfl, Lib.hid (by rw [← HU2.out]; omega), HW2⟩
            case measure => simp [intOf]; omega
        · have hnl : ¬ ((j : Int) < (k : Int)) := by omega
          have HK : Hid (j = k) := Lib.hid (by omega)
          go_wp2
          go_roundw
          case rel => exact ⟨k + 1, u, by omega, by go_num, rfl, Lib.hid (by rw [marOut, ← HV.out, HU.out, HK.out]), Lib.hid (HI.out.trans (HJ.out.mono HI.out.size))⟩
          case measure => simp [intOf]; omega
    · have hnl : ¬ ((k : Int) < (l.length : Int)) := by omega
      have HK : Hid (k = l.length) := Lib.hid (by omega)
      go_wp2
      go_ret2
      exact ⟨(by rw [HV.out, HK.out]; first | done | rfl), HW1.out.trans (HI.out.mono HW1.out.size)⟩

set_option maxHeartbeats 4000000 in
theorem margin_bad (a0 a1 : Int) (A : Option Addr) (c : Nat) (l : List Int) (w : World) (hr : Kd.C (Kd.int .i64) w A l.length l) (hc : l.length ≤ c) (ho : officeN a0 a1 l ≠ 0) :
    Calls Try.prog 28 #[.agg #[.int .i64 a0, .int .i64 a1, .slice A l.length c]] w
      fun e w' => e = .returned (.tuple #[.int .i64 0, .int .i64 (officeN a0 a1 l)]) ∧ Below w.heap.size w w' := by
  obtain ⟨W, hW⟩ : ∃ W, W = w.alloc (.cells #[.int .i64 a0, .int .i64 a1, .slice A l.length c] 24) := ⟨_, rfl⟩
  have hbl : Below w.heap.size w W := by rw [hW]; exact (Below.refl w.heap.size w).alloc (Nat.le_refl _) _
  have HC := Lib.hid (open_office a0 a1 A c l (.slice none 0 0) W (Kd.C_below hr hbl) hc ho)
  have HBL := Lib.hid hbl
  obtain ⟨E, hE⟩ : ∃ E, E = officeN a0 a1 l := ⟨_, rfl⟩
  rw [← hE] at ho HC ⊢
  have hd2 : (E != 0) = true := bne_iff_ne.2 ho
  clear hbl hE
  go_enter Try.func28, Try.ntmps28
  go_wp2_with fail
  rw [← hW]
  clear hW
  refine (HC.out).mono ?_
  rintro e w1 ⟨rfl, hw1⟩
  have HW1 := Lib.hid (HBL.out.trans (hw1.mono HBL.out.size))
  clear hw1 HBL HC
  go_wp2
  go_ret2
  exact ⟨rfl, HW1.out⟩

/-- what Margin comes to -/
def mark_Margin.f (a0_0 a0_1 : Int) (l0_2 : List Int) : Option (Int × Int) :=
  some (if officeN a0_0 a0_1 l0_2 ≠ 0 then (0, officeN a0_0 a0_1 l0_2) else (marOut a0_0 l0_2 l0_2.length, 0))
theorem mark_Margin.calls (a0_0 : Int) (a0_1 : Int) (A0_2 : Option Addr) (c0_2 : Nat) (l0_2 : List Int) (r1 : Int) (r2 : Int) (w : World) (hr0_2 : Kd.C (Kd.int .i64) w A0_2 l0_2.length l0_2) (hc0_2 : l0_2.length ≤ c0_2) (h : mark_Margin.f a0_0 a0_1 l0_2 = some (r1, r2)) :
    Calls Try.prog 28 #[.agg #[.int .i64 a0_0, .int .i64 a0_1, .slice A0_2 l0_2.length c0_2]] w fun e w' => e = .returned (.tuple #[.int .i64 r1, .int .i64 r2]) ∧ Below w.heap.size w w' := by
  have h' := Option.some.inj h
  clear h
  by_cases ho : officeN a0_0 a0_1 l0_2 ≠ 0
  · rw [if_pos ho] at h'
    cases h'
    exact margin_bad a0_0 a0_1 A0_2 c0_2 l0_2 w hr0_2 hc0_2 ho
  · rw [if_neg ho] at h'
    have ho' : officeN a0_0 a0_1 l0_2 = 0 := by omega
    cases h'
    exact margin_good a0_0 a0_1 A0_2 c0_2 l0_2 w hr0_2 hc0_2 ho'
end Go.Proofs.Ytbhcchhhpmlpmaa.Hand

/- Told comes to a plain value. -/
namespace Go.Proofs.Ytbhcchhhpmlpmaa.Hand
set_option linter.unusedVariables false
set_option linter.unusedSimpArgs false
open Go.RowKit Go.Maps Go.Proofs.YtbhcchhhpmlpmaaW.PrintWords Go.Proofs.YtbhcchhhpmlpmaaW.PrintLast Go.Proofs.YtbhcchhhpmlpmaaW.PrintMore Go.Proofs.Ytbhcchhhpmlpmaa.PrA

theorem open1_good (a0 a1 : Int) (A : Option Addr) (c : Nat) (l : List Int) (x : Int) (w : World) (hr : Kd.C (Kd.int .i64) w A l.length l) (hc : l.length ≤ c) (ho : officeN a0 a1 l = 0) (hn : outB 0 (l.length - 1) x = false) :
    Calls Try.prog 56 #[.agg #[.int .i64 a0, .int .i64 a1, .slice A l.length c], .slice (some ⟨w.heap.size, 0, none⟩) 1 1] (w.alloc (.cells #[.int .i64 x] 3))
      fun e w' => ∃ b, e = .returned (.tuple #[.pointer (some ⟨b, 0, none⟩), .int .i64 0]) ∧ RegAt w' b a0 a1 A c l ∧ w.heap.size ≤ b ∧ Below w.heap.size w w' := by
  have hb : Below w.heap.size w (w.alloc (.cells #[.int .i64 x] 3)) := (Below.refl _ _).alloc (Nat.le_refl _) _
  refine (open_good a0 a1 A c l _ 1 [x] _ (Kd.C_below hr hb) hc (reads1 w x) (Nat.le_refl _) ho (by simpa using hn)).mono ?_
  rintro e w' ⟨b, rfl, h1, h2, h3⟩
  exact ⟨b, rfl, h1, Nat.le_trans hb.size h2, hb.trans (h3.mono hb.size)⟩
theorem open1_owner (a0 a1 : Int) (A : Option Addr) (c : Nat) (l : List Int) (x : Int) (w : World) (hr : Kd.C (Kd.int .i64) w A l.length l) (hc : l.length ≤ c) (ho : officeN a0 a1 l = 0) (hn : outB 0 (l.length - 1) x = true) :
    Calls Try.prog 56 #[.agg #[.int .i64 a0, .int .i64 a1, .slice A l.length c], .slice (some ⟨w.heap.size, 0, none⟩) 1 1] (w.alloc (.cells #[.int .i64 x] 3))
      fun e w' => e = .returned (.tuple #[.pointer none, .int .i64 2]) ∧ Below w.heap.size w w' := by
  have hb : Below w.heap.size w (w.alloc (.cells #[.int .i64 x] 3)) := (Below.refl _ _).alloc (Nat.le_refl _) _
  refine (open_owner a0 a1 A c l _ 1 [x] _ (Kd.C_below hr hb) hc (reads1 w x) (Nat.le_refl _) ho (by simpa using hn)).mono ?_
  rintro e w' ⟨rfl, h3⟩
  exact ⟨rfl, hb.trans (h3.mono hb.size)⟩
theorem open1_office (a0 a1 : Int) (A : Option Addr) (c : Nat) (l : List Int) (x : Int) (w : World) (hr : Kd.C (Kd.int .i64) w A l.length l) (hc : l.length ≤ c) (ho : officeN a0 a1 l ≠ 0) :
    Calls Try.prog 56 #[.agg #[.int .i64 a0, .int .i64 a1, .slice A l.length c], .slice (some ⟨w.heap.size, 0, none⟩) 1 1] (w.alloc (.cells #[.int .i64 x] 3))
      fun e w' => e = .returned (.tuple #[.pointer none, .int .i64 (officeN a0 a1 l)]) ∧ Below w.heap.size w w' := by
  have hb : Below w.heap.size w (w.alloc (.cells #[.int .i64 x] 3)) := (Below.refl _ _).alloc (Nat.le_refl _) _
  refine (open_office a0 a1 A c l _ _ (Kd.C_below hr hb) hc ho).mono ?_
  rintro e w' ⟨rfl, h3⟩
  exact ⟨rfl, hb.trans (h3.mono hb.size)⟩
/-- the error of open with one owner -/
theorem open1_bad (a0 a1 : Int) (A : Option Addr) (c : Nat) (l : List Int) (x E : Int) (w : World) (hr : Kd.C (Kd.int .i64) w A l.length l) (hc : l.length ≤ c) (hE : E ≠ 0)
    (ho : officeN a0 a1 l = E ∨ (officeN a0 a1 l = 0 ∧ outB 0 (l.length - 1) x = true ∧ E = 2)) :
    Calls Try.prog 56 #[.agg #[.int .i64 a0, .int .i64 a1, .slice A l.length c], .slice (some ⟨w.heap.size, 0, none⟩) 1 1] (w.alloc (.cells #[.int .i64 x] 3))
      fun e w' => e = .returned (.tuple #[.pointer none, .int .i64 E]) ∧ Below w.heap.size w w' := by
  rcases ho with h | ⟨h1, h2, rfl⟩
  · have := open1_office a0 a1 A c l x w hr hc (by rw [h]; exact hE)
    rw [h] at this
    exact this
  · exact open1_owner a0 a1 A c l x w hr hc h1 h2

theorem szI_le {x y : Int} (h1 : 0 ≤ x) (h2 : x < 1024) (h3 : 0 ≤ y) (h4 : y < 1024) : 0 ≤ szI (bits .andNot .i64 x y) ∧ szI (bits .andNot .i64 x y) ≤ 10 := by
  obtain ⟨n, rfl⟩ := Int.eq_ofNat_of_zero_le h1
  obtain ⟨m, rfl⟩ := Int.eq_ofNat_of_zero_le h3
  rw [i64_andNot_nat n m (by omega) (by omega), szI_table _ (dif_lt _ _)]
  have := pc_le (dif n m)
  omega

/-- after how many losses an owner is told, as far as the first so many marks are looked at -/
def toldTo (a1 : Int) (l : List Int) (ow : Int) : Nat → Int
  | 0 => a1
  | k + 1 => if (k : Int) ≠ ow ∧ szI (bits .andNot .i64 (rd l k) (rd l ow)) ≤ a1 then min (toldTo a1 l ow k) (szI (bits .andNot .i64 (rd l ow) (rd l k)) - 1) else toldTo a1 l ow k

set_option maxHeartbeats 4000000 in
set_option maxRecDepth 100000 in
theorem told_good (a0 a1 : Int) (A : Option Addr) (c : Nat) (l : List Int) (ow : Int) (w : World) (hr : Kd.C (Kd.int .i64) w A l.length l) (hc : l.length ≤ c) (ho : officeN a0 a1 l = 0) (hn : outB 0 (l.length - 1) ow = false) :
    Calls Try.prog 30 #[.agg #[.int .i64 a0, .int .i64 a1, .slice A l.length c], .int .i64 ow] w
      fun e w' => e = .returned (.tuple #[.int .i64 (toldTo a1 l ow l.length), .int .i64 0]) ∧ Below w.heap.size w w' := by
  have hz := office_zero ho
  obtain ⟨W, hW⟩ : ∃ W, W = w.alloc (.cells #[.int .i64 a0, .int .i64 a1, .slice A l.length c] 24) := ⟨_, rfl⟩
  have hbl : Below w.heap.size w W := by rw [hW]; exact (Below.refl w.heap.size w).alloc (Nat.le_refl _) _
  have hB : RegAt W w.heap.size a0 a1 A c l := by rw [hW]; refine ⟨?_, ?_, ?_⟩ <;> simp [go_sem]
  have hO := open1_good a0 a1 A c l ow W (Kd.C_below hr hbl) hc ho hn
  have hsz : (⟨W.heap.size, 0, none⟩ : Addr) = ⟨w.heap.size + 1, 0, none⟩ := by rw [hW]; simp
  rw [hsz] at hO
  have HO := Lib.hid hO
  have HBL := Lib.hid hbl
  have HB := Lib.hid hB
  have HR := Lib.hid hr
  have hl12 : l.length ≤ 12 := hz.2.2.2.2.1
  have HMB := Lib.hid (fun k => mark_bound (l := l) ho k)
  have HSIZE := Lib.hid size_any
  have HSZ := Lib.hid (cell_size hB.1)
  have n1 := out_in hn
  have p1 : 0 ≤ ow := n1.1
  have p2 : ow < (l.length : Int) := by omega
  obtain ⟨o, rfl⟩ := Int.eq_ofNat_of_zero_le p1
  obtain ⟨ad, rfl, x1⟩ := Kd.at_int hr (o : Int) p1 p2
  rw [Int.toNat_natCast] at x1
  obtain ⟨own, hown⟩ : ∃ m, m = rd l (o : Int) := ⟨_, rfl⟩
  rw [← hown] at x1
  have HX1 := Lib.hid x1
  have HOWN := Lib.hid hown
  have hob := HMB.out o (by omega)
  rw [← hown] at hob
  have ob1 := hob.1
  have ob2 := hob.2
  clear hbl hB hz ho hr hsz hO n1 hn x1 hown hob
  go_enter Try.func30, Try.ntmps30
  go_wp2_with fail
  rw [← hW]
  clear hW
  refine (HO.out).mono ?_
  rintro e w1 ⟨b, rfl, hR1, hb1, hw1⟩
  obtain ⟨c0, c1, c2⟩ := reg_below HB.out hw1 HSZ.out
  have HC := Lib.hid (reg_below HB.out hw1 HSZ.out)
  have hwb := HBL.out.trans (hw1.mono HBL.out.size)
  have HA1 := Lib.hid (Kd.C_below HR.out hwb)
  have x1 := (hwb.cell (World.block_lt_of_cell? w _ HX1.out)).trans HX1.out
  have HW1 := Lib.hid hwb
  clear hR1 hb1 hw1 hwb
  have k1 := kept_cell' c1
  have k2 := kept_cell' c2
  have y1 := kept_cell' x1
  clear c0 c1 c2 x1
  go_wp2_with fail
  refine wp_region_kept w1.heap.size w1 (by kernel_rfl) (by kernel_rfl) (Below.refl _ _) ?_
  repeat (go_big_quiet_step (fail))
  refine wpQuiet_nil ?_
  rintro _ ⟨X, rfl⟩
  obtain ⟨w2, hw2⟩ : ∃ w2, w2 = X.1 := ⟨_, rfl⟩
  have hX := X.2
  rw [← hw2] at hX ⊢
  have HX := Lib.hid hX
  clear hw2 k1 k2 y1 hX
  obtain ⟨d0, d1, d2⟩ := reg_below HC.out HX.out (cell_size HC.out.1)
  have HC2 := Lib.hid (reg_below HC.out HX.out (cell_size HC.out.1))
  have HA2 := Lib.hid (Kd.C_below HA1.out HX.out)
  have HW2 := Lib.hid (HW1.out.trans (HX.out.mono HW1.out.size))
  clear HX HA1 HC HW1 HX1 HB HO HBL HR X
  go_wp2_with fail
  clear d0 d1 d2
  go_loopw [8, 32] (fun m i wr => ∃ (k : Nat) (v : Int), k ≤ l.length ∧ i = .int .i64 k ∧ m = .int .i64 v ∧ Hid (v = toldTo a1 l o k) ∧ Hid (Below w2.heap.size w2 wr)) (fun _ i _ => 60 - (intOf i).toNat)
  case atStart => exact ⟨0, a1, Nat.zero_le _, rfl, rfl, Lib.hid rfl, Lib.hid (Below.refl _ _)⟩
  case round =>
    obtain ⟨k, v, hk, rfl, rfl, HV, HI⟩ := hrel
    by_cases hlt : k < l.length
    · have hlt' : (k : Int) < (l.length : Int) := by omega
      have p0 : (0 : Int) ≤ (k : Int) := by omega
      obtain ⟨ad', e', hx⟩ := Kd.at_int (Kd.C_below HA2.out HI.out) (k : Int) p0 hlt'
      cases e'
      rw [Int.toNat_natCast] at hx
      have hmb := HMB.out k hlt
      obtain ⟨m, hm⟩ : ∃ m, m = rd l (k : Int) := ⟨_, rfl⟩
      rw [← hm] at hx hmb
      have mb1 := hmb.1
      have mb2 := hmb.2
      obtain ⟨-, e1, e2⟩ := reg_below HC2.out HI.out (cell_size HC2.out.1)
      have HM := Lib.hid hm
      have HE1 := Lib.hid e1
      clear hm hmb
      by_cases hi : (k : Int) = (o : Int)
      · have hg : ((k : Int) != (o : Int)) = false := by rw [hi]; simp
        have HV2 : Hid (v = toldTo a1 l o (k + 1)) := Lib.hid (by rw [toldTo, if_neg (fun h => h.1 hi), HV.out])
        have HI' := Lib.hid hi
        clear hi
        go_wp2_with fail
        have k1 := kept_cell' e1
        clear hx e1 e2
        refine wp_region_kept wr.heap.size wr (by kernel_rfl) (by kernel_rfl) (Below.refl _ _) ?_
        repeat (go_big_quiet_step (fail))
        refine wpQuiet_nil ?_
        rintro _ ⟨X, rfl⟩
        go_wp2
        go_roundw
        case rel => exact ⟨k + 1, v, by omega, by go_num, rfl, HV2, Lib.hid (HI.out.trans (X.2.mono HI.out.size))⟩
        case measure => simp [intOf]; omega
      · have hg : ((k : Int) != (o : Int)) = true := bne_iff_ne.2 hi
        have HI' := Lib.hid hi
        have hsb := szI_le (x := m) (y := own) (by omega) mb2 (by omega) ob2
        have hsb' := szI_le (x := own) (y := m) (by omega) ob2 (by omega) mb2
        have HS1 := Lib.hid (fun W => HSIZE.out (bits .andNot .i64 m own) W)
        have HS2 := Lib.hid (fun W => HSIZE.out (bits .andNot .i64 own m) W)
        obtain ⟨s1, hs1⟩ : ∃ s, s = szI (bits .andNot .i64 m own) := ⟨_, rfl⟩
        obtain ⟨s2, hs2⟩ : ∃ s, s = szI (bits .andNot .i64 own m) := ⟨_, rfl⟩
        rw [← hs1] at hsb HS1
        rw [← hs2] at hsb' HS2
        have HV2 : Hid (toldTo a1 l o (k + 1) = if s1 ≤ a1 then min v (s2 - 1) else v) := Lib.hid (by rw [toldTo, ← HV.out, ← HM.out, ← HOWN.out, ← hs1, ← hs2]; simp only [ne_eq, HI'.out, not_false_eq_true, true_and])
        have q1 := hsb'.1
        have q2 := hsb'.2
        clear hi hs1 hs2 hsb hsb'
        go_wp2_with fail
        have k1 := kept_cell' e1
        clear hx e1 e2
        refine wp_region_kept wr.heap.size wr (by kernel_rfl) (by kernel_rfl) (Below.refl _ _) ?_
        repeat (go_big_quiet_step (first | with_reducible exact kept_calls _ (Nat.le_refl _) (HS1.out _)))
        refine wpQuiet_nil ?_
        rintro _ ⟨X, rfl⟩
        by_cases hs : s1 ≤ a1
        · have HSS := Lib.hid hs
          have hs' : decide (s1 ≤ a1) = true := decide_eq_true hs
          rw [hs']
          clear hs hs' k1
          go_wp2_with fail
          refine (HS2.out _).mono ?_
          rintro e w3 ⟨rfl, hw3⟩
          have HW3 := Lib.hid (HI.out.trans ((X.2.trans (hw3.mono X.2.size)).mono HI.out.size))
          clear hw3
          go_wp2
          all_goals
            go_roundw
            case rel => exact ⟨k + 1, _, by omega, by go_num, rfl, Lib.hid (by rw [HV2.out, if_pos HSS.out]; omega), HW3⟩
            case measure => simp [intOf]; omega
        · have HSS := Lib.hid hs
          have hs' : decide (s1 ≤ a1) = false := decide_eq_false hs
          rw [hs']
          clear hs hs' k1
          go_wp2
          go_roundw
          case rel => exact ⟨k + 1, v, by omega, by go_num, rfl, Lib.hid (by rw [HV2.out, if_neg (by have := HSS.out; omega)]), Lib.hid (HI.out.trans (X.2.mono HI.out.size))⟩
          case measure => simp [intOf]; omega
    · have hnl : ¬ ((k : Int) < (l.length : Int)) := by omega
      have HK : Hid (k = l.length) := Lib.hid (by omega)
      go_wp2
      go_ret2
      exact ⟨(by rw [HV.out, HK.out]; first | done | rfl), HW2.out.trans (HI.out.mono HW2.out.size)⟩

set_option maxHeartbeats 4000000 in
theorem told_bad (a0 a1 : Int) (A : Option Addr) (c : Nat) (l : List Int) (ow E : Int) (w : World) (hr : Kd.C (Kd.int .i64) w A l.length l) (hc : l.length ≤ c) (hE : E ≠ 0)
    (ho : officeN a0 a1 l = E ∨ (officeN a0 a1 l = 0 ∧ outB 0 (l.length - 1) ow = true ∧ E = 2)) :
    Calls Try.prog 30 #[.agg #[.int .i64 a0, .int .i64 a1, .slice A l.length c], .int .i64 ow] w
      fun e w' => e = .returned (.tuple #[.int .i64 0, .int .i64 E]) ∧ Below w.heap.size w w' := by
  obtain ⟨W, hW⟩ : ∃ W, W = w.alloc (.cells #[.int .i64 a0, .int .i64 a1, .slice A l.length c] 24) := ⟨_, rfl⟩
  have hbl : Below w.heap.size w W := by rw [hW]; exact (Below.refl w.heap.size w).alloc (Nat.le_refl _) _
  have hC := open1_bad a0 a1 A c l ow E W (Kd.C_below hr hbl) hc hE ho
  have hsz : (⟨W.heap.size, 0, none⟩ : Addr) = ⟨w.heap.size + 1, 0, none⟩ := by rw [hW]; simp
  rw [hsz] at hC
  have HC := Lib.hid hC
  have HBL := Lib.hid hbl
  have hd2 : (E != 0) = true := bne_iff_ne.2 hE
  clear hbl hE hC ho
  go_enter Try.func30, Try.ntmps30
  go_wp2_with fail
  rw [← hW]
  clear hW
  refine (HC.out).mono ?_
  rintro e w1 ⟨rfl, hw1⟩
  have HW1 := Lib.hid (HBL.out.trans (hw1.mono HBL.out.size))
  clear hw1 HBL HC
  go_wp2
  go_ret2
  exact ⟨rfl, HW1.out⟩

/-- what Told comes to -/
def mark_Told.f (a0_0 a0_1 : Int) (l0_2 : List Int) (a1 : Int) : Option (Int × Int) :=
  some (if officeN a0_0 a0_1 l0_2 ≠ 0 then (0, officeN a0_0 a0_1 l0_2) else if outB 0 (l0_2.length - 1) a1 then (0, 2) else (toldTo a0_1 l0_2 a1 l0_2.length, 0))
theorem mark_Told.calls (a0_0 : Int) (a0_1 : Int) (A0_2 : Option Addr) (c0_2 : Nat) (l0_2 : List Int) (a1 : Int) (r1 : Int) (r2 : Int) (w : World) (hr0_2 : Kd.C (Kd.int .i64) w A0_2 l0_2.length l0_2) (hc0_2 : l0_2.length ≤ c0_2) (h : mark_Told.f a0_0 a0_1 l0_2 a1 = some (r1, r2)) :
    Calls Try.prog 30 #[.agg #[.int .i64 a0_0, .int .i64 a0_1, .slice A0_2 l0_2.length c0_2], .int .i64 a1] w fun e w' => e = .returned (.tuple #[.int .i64 r1, .int .i64 r2]) ∧ Below w.heap.size w w' := by
  have h' := Option.some.inj h
  clear h
  by_cases ho : officeN a0_0 a0_1 l0_2 ≠ 0
  · rw [if_pos ho] at h'
    cases h'
    exact told_bad a0_0 a0_1 A0_2 c0_2 l0_2 a1 _ w hr0_2 hc0_2 ho (.inl rfl)
  · rw [if_neg ho] at h'
    have ho' : officeN a0_0 a0_1 l0_2 = 0 := by omega
    cases hw : outB 0 (l0_2.length - 1) a1
    · rw [hw] at h'
      cases h'
      exact told_good a0_0 a0_1 A0_2 c0_2 l0_2 a1 w hr0_2 hc0_2 ho' hw
    · rw [hw] at h'
      cases h'
      exact told_bad a0_0 a0_1 A0_2 c0_2 l0_2 a1 2 w hr0_2 hc0_2 (by decide) (.inr ⟨ho', hw, rfl⟩)
end Go.Proofs.Ytbhcchhhpmlpmaa.Hand

/- Keys that are a struct of two numbers. -/
namespace Go.Proofs.Ytbhcchhhpmlpmaa.Hand
set_option linter.unusedVariables false
set_option linter.unusedSimpArgs false
open Go.RowKit Go.Maps

theorem laidOut : laidOutB Try.prog = true := by kernel_rfl
theorem pair_law : Keyed Try.prog 72 := Keyed.of_law (deep_law_laid laidOut (m := 3) (by omega) (of_decide_eq_true (by kernel_rfl)) (by kernel_rfl) (by kernel_rfl))
def pairKey (x y : Int) : Lit := .string (keyBytes [.int .i64 x, .int .i64 y])
theorem pair_desc : (match Try.prog.underlying 72 with | some (.struct fs) => fs.size == 2 && ((match fs[0]? with | some f => f.type == 3 && f.offset == 0 && f.name != "_" | _ => false) && (match fs[1]? with | some f => f.type == 3 && f.offset == 1 && f.name != "_" | _ => false)) | _ => false) = true := by kernel_rfl
theorem pair_fields : ∃ f g : Field, Try.prog.underlying 72 = some (.struct #[f, g]) ∧ (f.type = 3 ∧ f.offset = 0 ∧ (f.name != "_") = true) ∧ (g.type = 3 ∧ g.offset = 1 ∧ (g.name != "_") = true) := by
  have h := pair_desc
  split at h
  · rename_i fs he
    rw [Bool.and_eq_true, Bool.and_eq_true] at h
    obtain ⟨h1, h2, h3⟩ := h
    have hs : fs.size = 2 := by simpa using h1
    split at h2
    · rename_i f hf
      split at h3
      · rename_i g hg
        simp only [Bool.and_eq_true, beq_iff_eq] at h2 h3
        refine ⟨f, g, ?_, ⟨h2.1.1, h2.1.2, h2.2⟩, ⟨h3.1.1, h3.1.2, h3.2⟩⟩
        have ha : fs = #[f, g] := by
          apply Array.ext
          · simpa using hs
          · intro i h1 h2
            have : i = 0 ∨ i = 1 := by omega
            rcases this with rfl | rfl
            · simpa [Array.getElem?_eq_getElem h1] using hf
            · simpa [Array.getElem?_eq_getElem h1] using hg
        exact he.trans (congrArg (fun a => some (TypeDesc.struct a)) ha)
      · cases h3
    · cases h2
  · cases h
theorem pair_size : Try.prog.cellsOf 72 = 2 := by kernel_rfl
theorem pair_int_size : Try.prog.cellsOf 3 = 1 := by kernel_rfl
theorem pair_type : Try.prog.keyType 72 = true := by kernel_rfl
theorem pair_many : ∃ n, Try.prog.types.size = n + 1 := ⟨Try.prog.types.size - 1, by have : 72 < Try.prog.types.size := of_decide_eq_true (by kernel_rfl); omega⟩
/-- a number as a key's part -/
def lit1 (c : Value) : Option (List Lit) := match c with | .int .i64 x => if (Lit.int .i64 x).wf = true then some [.int .i64 x] else none | _ => none
theorem lit1_some {c : Value} {l : List Lit} (h : lit1 c = some l) : ∃ x, c = .int .i64 x ∧ (Lit.int .i64 x).wf = true ∧ l = [.int .i64 x] := by
  unfold lit1 at h
  split at h
  · rename_i x
    split at h
    · rename_i hw
      exact ⟨x, rfl, hw, (Option.some.inj h).symm⟩
    · cases h
  · cases h
theorem lit1_int {x : Int} (h : (Lit.int .i64 x).wf = true) : lit1 (.int .i64 x) = some [.int .i64 x] := by simp [lit1, h]
theorem int_lits (d : Nat) (c : Value) : Try.prog.keyLits (d + 1) 3 [c] = lit1 c := by
  have hi : Try.prog.underlying 3 = some (.int .i64) := Try.underlying3
  unfold Program.keyLits lit1
  rw [hi]
  cases c <;> simp
  rename_i q a
  cases q <;> simp
theorem pair_lits (d : Nat) (cs : List Value) (ls : List Lit) : Try.prog.keyLits (d + 2) 72 cs = some ls ↔ ∃ x y, cs = [.int .i64 x, .int .i64 y] ∧ (Lit.int .i64 x).wf = true ∧ (Lit.int .i64 y).wf = true ∧ ls = [.int .i64 x, .int .i64 y] := by
  obtain ⟨f, g, hf, ⟨ht, ho, hn⟩, ⟨gt, go, gn⟩⟩ := pair_fields
  unfold Program.keyLits
  rw [hf]
  simp only [pair_size]
  by_cases hl : cs.length = 2
  · obtain ⟨c, c', rfl⟩ : ∃ c c', cs = [c, c'] := by
      match cs, hl with
      | [c, c'], _ => exact ⟨c, c', rfl⟩
    simp only [hn, ht, ho, gn, gt, go, pair_int_size, List.length_cons, List.length_nil, Array.all_eq_true]
    have hall : ∀ (i : Nat) (x : i < 2), ¬ ([f, g][i]).name = "_" := by
      intro i hi
      have : i = 0 ∨ i = 1 := by omega
      rcases this with rfl | rfl
      · simpa using hn
      · simpa using gn
    simp [hn, ht, ho, gn, gt, go, pair_int_size, int_lits]
    constructor
    · intro h
      replace h := h.2
      cases hc : lit1 c
      · rw [hc] at h; simp at h
      · cases hc' : lit1 c'
        · rw [hc, hc'] at h; simp at h
        · rw [hc, hc'] at h
          obtain ⟨x, rfl, hx, rfl⟩ := lit1_some hc
          obtain ⟨y, rfl, hy, rfl⟩ := lit1_some hc'
          simp at h
          exact ⟨x, y, ⟨rfl, rfl⟩, hx, hy, h.symm⟩
    · rintro ⟨x, y, ⟨rfl, rfl⟩, h1, h2, rfl⟩
      refine ⟨hall, ?_⟩
      rw [lit1_int h1, lit1_int h2]; simp
  · simp [hl]
    intro x y hx
    subst hx
    simp at hl
theorem pair_key {x y : Int} (hw : (Lit.int .i64 x).wf = true) (hv : (Lit.int .i64 y).wf = true) : keyOf Try.prog 72 (.agg #[.int .i64 x, .int .i64 y]) = some (pairKey x y) := by
  obtain ⟨f, g, hf, _⟩ := pair_fields
  obtain ⟨n, hn⟩ := pair_many
  have hl := (pair_lits n [.int .i64 x, .int .i64 y] [.int .i64 x, .int .i64 y]).2 ⟨x, y, rfl, hw, hv, rfl⟩
  unfold keyOf
  rw [hf]
  simp [pair_type, Value.formed, hf, pair_size, hn, Value.cells, hl, pairKey]
theorem pair_inv {v : Value} {l : Lit} (h : keyOf Try.prog 72 v = some l) : ∃ x y, v = .agg #[.int .i64 x, .int .i64 y] ∧ (Lit.int .i64 x).wf = true ∧ (Lit.int .i64 y).wf = true ∧ l = pairKey x y := by
  obtain ⟨f, g, hf, _⟩ := pair_fields
  obtain ⟨n, hn⟩ := pair_many
  unfold keyOf at h
  rw [hf] at h
  simp only [pair_type, Bool.true_and] at h
  split at h
  · rename_i hfm
    obtain ⟨ls, hls, rfl⟩ := Option.map_eq_some_iff.1 h
    rw [hn] at hls
    obtain ⟨x, y, hx, hw, hv, rfl⟩ := (pair_lits n _ _).1 hls
    cases v
    case agg cs =>
      refine ⟨x, y, ?_, hw, hv, rfl⟩
      exact congrArg Value.agg (Array.ext' (by simpa [Value.cells] using hx))
    all_goals (simp [Value.formed, hf] at hfm)
  · cases h
theorem pairKey_inj {x y x' y' : Int} (hx : (Lit.int .i64 x).wf = true) (hy : (Lit.int .i64 y).wf = true) (hx' : (Lit.int .i64 x').wf = true) (hy' : (Lit.int .i64 y').wf = true) (h : pairKey x y = pairKey x' y') : x = x' ∧ y = y' := by
  have h1 := pair_key hx hy
  have h2 := pair_key hx' hy'
  rw [h] at h1
  have := pair_law.inj h1 h2
  simpa using this
theorem pairKey_is (x y : Int) (hx : (Lit.int .i64 x).wf = true) (hy : (Lit.int .i64 y).wf = true) : WideAt.IsKeyLit (pairKey x y) := pair_law.key (pair_key hx hy)

/-- which pairs of numbers a map holds, and with what -/
def Pairs (D : DataW Unit) (T : Int → Int → Option Int) : Prop := ∀ x y : Int, (Lit.int .i64 x).wf = true → (Lit.int .i64 y).wf = true → Maps.has D (pairKey x y) = (T x y).isSome ∧ ∀ v, T x y = some v → D.atKey (pairKey x y) (.lit (.int .i64 0)) = .lit (.int .i64 v)
def putT (T : Int → Int → Option Int) (i k v : Int) : Int → Int → Option Int := fun x y => if x = i ∧ y = k then some v else T x y
theorem pairs_empty : Pairs (.map []) fun _ _ => none := fun x y _ _ => ⟨rfl, fun v h => by cases h⟩
theorem pairs_put {D : DataW Unit} {T : Int → Int → Option Int} {i k v : Int} (hD : IsMap D) (hi : (Lit.int .i64 i).wf = true) (hk : (Lit.int .i64 k).wf = true) (h : Pairs D T) : Pairs (D.put (pairKey i k) (.lit (.int .i64 v))) (putT T i k v) := by
  intro x y hx hy
  by_cases e : x = i ∧ y = k
  · obtain ⟨rfl, rfl⟩ := e
    rw [has_put_same hD (pairKey_is _ _ hx hy), atKey_put_same hD (pairKey_is _ _ hx hy)]
    simp [putT]
  · have hne : pairKey x y ≠ pairKey i k := fun h' => e (pairKey_inj hx hy hi hk h')
    rw [has_put_other hne, atKey_put_other hne]
    simp only [putT, if_neg e]
    exact h x y hx hy

/-- a map whose bad pairs are taken out, one after another: those that are still to come are there -/
def Pruned (D : DataW Unit) (left : Lit → Bool) (T : Int → Int → Option Int) (bad : Int → Int → Int → Bool) : Prop :=
  ∀ x y : Int, (Lit.int .i64 x).wf = true → (Lit.int .i64 y).wf = true →
    (left (pairKey x y) = true → (T x y).isSome = true) ∧
    ∀ v, T x y = some v → (Maps.has D (pairKey x y) = (!bad x y v || left (pairKey x y))) ∧ (Maps.has D (pairKey x y) = true → D.atKey (pairKey x y) (.lit (.int .i64 0)) = .lit (.int .i64 v))
def PrunedNone (D : DataW Unit) (T : Int → Int → Option Int) : Prop := ∀ x y : Int, (Lit.int .i64 x).wf = true → (Lit.int .i64 y).wf = true → T x y = none → Maps.has D (pairKey x y) = false

theorem pruned_start {D : DataW Unit} {T : Int → Int → Option Int} {bad : Int → Int → Int → Bool} (h : Pairs D T) : Pruned D (Maps.has D) T bad := by
  intro x y hx hy
  obtain ⟨h1, h2⟩ := h x y hx hy
  refine ⟨fun h' => by rw [← h1]; exact h', fun v hv => ⟨?_, fun _ => h2 v hv⟩⟩
  rw [h1, hv]; simp
theorem prunedNone_start {D : DataW Unit} {T : Int → Int → Option Int} (h : Pairs D T) : PrunedNone D T := fun x y hx hy hT => by rw [(h x y hx hy).1, hT]; rfl
theorem pruned_at {D : DataW Unit} {left : Lit → Bool} {T : Int → Int → Option Int} {bad : Int → Int → Int → Bool} {x y c : Int} (h : Pruned D left T bad) (hx : (Lit.int .i64 x).wf = true) (hy : (Lit.int .i64 y).wf = true) (hl : left (pairKey x y) = true)
    (hat : ∀ zd, D.atKey (pairKey x y) zd = .lit (.int .i64 c)) : T x y = some c := by
  obtain ⟨h1, h2⟩ := h x y hx hy
  obtain ⟨v, hv⟩ := Option.isSome_iff_exists.1 (h1 hl)
  obtain ⟨h3, h4⟩ := h2 v hv
  have := h4 (by rw [h3, hl, Bool.or_true])
  rw [hat] at this
  have e : c = v := by simpa using this
  rw [hv, e]
theorem pruned_stay {D : DataW Unit} {left : Lit → Bool} {T : Int → Int → Option Int} {bad : Int → Int → Int → Bool} {x y c : Int} (h : Pruned D left T bad) (hx : (Lit.int .i64 x).wf = true) (hy : (Lit.int .i64 y).wf = true) (hT : T x y = some c) (hb : bad x y c = false) :
    Pruned D (fun z => left z && !z.sameKey (pairKey x y)) T bad := by
  intro x' y' hx' hy'
  obtain ⟨h1, h2⟩ := h x' y' hx' hy'
  refine ⟨fun h' => h1 (Bool.and_eq_true_iff.1 h').1, fun v hv => ⟨?_, (h2 v hv).2⟩⟩
  by_cases e : x' = x ∧ y' = y
  · obtain ⟨rfl, rfl⟩ := e
    rw [hT] at hv; cases hv
    rw [(h2 c hT).1, hb]; simp
  · have hne : pairKey x' y' ≠ pairKey x y := fun h' => e (pairKey_inj hx' hy' hx hy h')
    dsimp only
    rw [(h2 v hv).1, sameKey_ne hne]; simp
theorem pruned_drop {D : DataW Unit} {left : Lit → Bool} {T : Int → Int → Option Int} {bad : Int → Int → Int → Bool} {x y c : Int} (h : Pruned D left T bad) (hx : (Lit.int .i64 x).wf = true) (hy : (Lit.int .i64 y).wf = true) (hT : T x y = some c) (hb : bad x y c = true) :
    Pruned (D.del (pairKey x y)) (fun z => (left z && !z.sameKey (pairKey x y)) && !z.sameKey (pairKey x y)) T bad := by
  intro x' y' hx' hy'
  obtain ⟨h1, h2⟩ := h x' y' hx' hy'
  refine ⟨fun h' => h1 (Bool.and_eq_true_iff.1 (Bool.and_eq_true_iff.1 h').1).1, fun v hv => ?_⟩
  by_cases e : x' = x ∧ y' = y
  · obtain ⟨rfl, rfl⟩ := e
    rw [hT] at hv; cases hv
    dsimp only
    rw [has_del_same, hb, WideAt.sameKey_self (pairKey_is _ _ hx hy)]
    simp
  · have hne : pairKey x' y' ≠ pairKey x y := fun h' => e (pairKey_inj hx' hy' hx hy h')
    dsimp only
    rw [has_del_other hne, atKey_del_other hne, (h2 v hv).1, sameKey_ne hne]
    refine ⟨by simp, fun h' => (h2 v hv).2 (by rw [(h2 v hv).1]; exact h')⟩
theorem prunedNone_drop {D : DataW Unit} {T : Int → Int → Option Int} {x y : Int} (h : PrunedNone D T) (hx : (Lit.int .i64 x).wf = true) (hy : (Lit.int .i64 y).wf = true) : PrunedNone (D.del (pairKey x y)) T := by
  intro x' y' hx' hy' hT
  by_cases e : x' = x ∧ y' = y
  · obtain ⟨rfl, rfl⟩ := e
    exact has_del_same
  · rw [has_del_other (fun h' => e (pairKey_inj hx' hy' hx hy h'))]
    exact h x' y' hx' hy' hT
/-- what is left when nothing is to come -/
theorem pruned_end {D : DataW Unit} {left : Lit → Bool} {T : Int → Int → Option Int} {bad : Int → Int → Int → Bool} (h : Pruned D left T bad) (h0 : PrunedNone D T) (hl : ∀ kl, left kl = false) (x y : Int) (hx : (Lit.int .i64 x).wf = true) (hy : (Lit.int .i64 y).wf = true) :
    Maps.has D (pairKey x y) = ((T x y).map fun v => !bad x y v).getD false := by
  cases hT : T x y with
  | none => exact h0 x y hx hy hT
  | some v =>
    rw [((h x y hx hy).2 v hT).1, hl]; simp
end Go.Proofs.Ytbhcchhhpmlpmaa.Hand

/- Apart comes to the first two owners whose marks clash. -/
namespace Go.Proofs.Ytbhcchhhpmlpmaa.Hand
set_option linter.unusedVariables false
set_option linter.unusedSimpArgs false
open Go.RowKit Go.Maps Go.Proofs.YtbhcchhhpmlpmaaW.PrintWords Go.Proofs.YtbhcchhhpmlpmaaW.PrintLast Go.Proofs.YtbhcchhhpmlpmaaW.PrintMore Go.Proofs.Ytbhcchhhpmlpmaa.PrA

theorem zero_int (w : World) : (zeroValue 3).run Try.prog w = .ok (.int .i64 0) w := by kernel_rfl
/-- the pairs that are looked at so far -/
def fillT (l : List Int) (i k : Nat) : Int → Int → Option Int := fun x y => if 0 ≤ x ∧ 0 ≤ y ∧ y < l.length ∧ (x < i ∨ (x = i ∧ y < k)) then some (farI (rd l x) (rd l y)) else none
theorem fillT_zero (l : List Int) : fillT l 0 0 = fun _ _ => none := by
  funext x y
  simp only [fillT]
  rw [if_neg (by omega)]
theorem fillT_row (l : List Int) (i : Nat) : fillT l i l.length = fillT l (i + 1) 0 := by
  funext x y
  simp only [fillT]
  by_cases h : 0 ≤ x ∧ 0 ≤ y ∧ y < l.length ∧ (x < i ∨ (x = i ∧ y < l.length))
  · rw [if_pos h, if_pos (by omega)]
  · rw [if_neg h, if_neg (by omega)]
theorem fillT_put (l : List Int) (i k : Nat) (hk : k < l.length) : putT (fillT l i k) i k (farI (rd l i) (rd l k)) = fillT l i (k + 1) := by
  funext x y
  simp only [fillT, putT]
  by_cases e : x = (i : Int) ∧ y = (k : Int)
  · obtain ⟨rfl, rfl⟩ := e
    rw [if_pos ⟨rfl, rfl⟩, if_pos (by omega)]
  · rw [if_neg e]
    by_cases h : 0 ≤ x ∧ 0 ≤ y ∧ y < l.length ∧ (x < i ∨ (x = i ∧ y < k))
    · rw [if_pos h, if_pos (by omega)]
    · rw [if_neg h, if_neg (by omega)]
theorem grown_none_of_below {W W' : World} (h : Below W.heap.size W W') : W.grownBy W' none := ⟨h.os, h.tape, h.output, h.size, fun k hk _ => h.block k hk⟩
theorem wf_small (k : Nat) (h : k ≤ 100) : (Lit.int .i64 (k : Int)).wf = true := WalkArith.wf_i64 (by omega)
def PairsAt (W : World) (b n : Nat) (T : Int → Int → Option Int) : Prop := ∃ D : DataW Unit, W.ownsMap Try.prog 72 (plainElem Try.prog 3) b n D ∧ Pairs D T
/-- is a pair struck out? -/
def badB (a1 : Int) (x y v : Int) : Bool := decide (y ≤ x) || decide (a1 < v)
/-- do the marks of two owners clash, the lesser one first? -/
def clashT (a1 : Int) (l : List Int) (x y : Int) : Bool := decide (0 ≤ x) && decide (x < y) && decide (y < l.length) && decide (farI (rd l x) (rd l y) ≤ a1)
theorem clashT_eq (a1 : Int) (l : List Int) (x y : Int) : ((fillT l l.length 0 x y).map fun v => !badB a1 x y v).getD false = clashT a1 l x y := by
  simp only [fillT, clashT]
  by_cases h : 0 ≤ x ∧ 0 ≤ y ∧ y < l.length ∧ (x < l.length ∨ (x = l.length ∧ y < (0 : Nat)))
  · rw [if_pos h]
    simp only [badB, Bool.not_or, Option.map_some, Option.getD_some]
    rw [Bool.eq_iff_iff]
    simp
    omega
  · rw [if_neg h]
    symm
    simp only [Option.map_none, Option.getD_none]
    simp
    omega

set_option maxHeartbeats 4000000 in
set_option maxRecDepth 100000 in
theorem clashes_any (b0 : Nat) (a0 a1 : Int) (A : Option Addr) (c : Nat) (l : List Int) (w : World) (hB : RegAt w b0 a0 a1 A c l) (hr : Kd.C (Kd.int .i64) w A l.length l) (hc : l.length ≤ c) (hl : l.length ≤ 12)
    (hfb : ∀ i j : Nat, i < l.length → j < l.length → 0 ≤ farI (rd l i) (rd l j) ∧ farI (rd l i) (rd l j) ≤ 10) :
    Calls Try.prog 63 #[.pointer (some ⟨b0, 0, none⟩)] w
      fun e w' => (∃ (b n : Nat) (D : DataW Unit), e = .returned (.map (some b)) ∧ w'.ownsMap Try.prog 72 (plainElem Try.prog 3) b n D ∧ w.heap.size ≤ b ∧
        ∀ x y : Int, (Lit.int .i64 x).wf = true → (Lit.int .i64 y).wf = true → Maps.has D (pairKey x y) = clashT a1 l x y) ∧ Below w.heap.size w w' := by
  have hmm := @run_makeMap Try.prog
  have hbs := cell_size hB.1
  have HB := Lib.hid hB
  have HR := Lib.hid hr
  have HFB := Lib.hid hfb
  have HFAR := Lib.hid far_any
  have HLL := Lib.hid hl
  have hbl : Below w.heap.size w (w.alloc (.map #[] 0)) := (Below.refl _ _).alloc (Nat.le_refl _) _
  obtain ⟨c0, c1, c2⟩ := reg_below hB hbl hbs
  have hM0 : PairsAt (w.alloc (.map #[] 0)) w.heap.size 0 (fillT l 0 0) := by
    rw [fillT_zero]
    exact ⟨_, World.ownsMap_made (H := Unit) w Try.prog 72 (plainElem Try.prog 3), pairs_empty⟩
  have HM0 := Lib.hid hM0
  have HBL := Lib.hid hbl
  clear hM0 hbl hfb hr hB
  go_enter Try.func63, Try.ntmps63
  go_wp2_with fail
  clear c0 c1 c2 hmm
  go_loopw [17] (fun i wr => ∃ (k n : Nat), k ≤ l.length ∧ n ≤ 12 * k ∧ i = .int .i64 k ∧ Hid (PairsAt wr w.heap.size n (fillT l k 0) ∧ Below w.heap.size w wr)) (fun i _ => 60 - (intOf i).toNat)
  case atStart => exact ⟨0, 0, Nat.zero_le _, Nat.zero_le _, rfl, Lib.hid ⟨HM0.out, HBL.out⟩⟩
  case round =>
    obtain ⟨i, n, hi, hn, rfl, HI⟩ := hrel
    by_cases hlt : i < l.length
    · have hlt' : (i : Int) < (l.length : Int) := by omega
      have p0 : (0 : Int) ≤ (i : Int) := by omega
      obtain ⟨ad, rfl, hx⟩ := Kd.at_int (Kd.C_below HR.out HI.out.2) (i : Int) p0 hlt'
      rw [Int.toNat_natCast] at hx
      obtain ⟨m, hm⟩ : ∃ m, m = rd l (i : Int) := ⟨_, rfl⟩
      rw [← hm] at hx
      obtain ⟨-, -, e2⟩ := reg_below HB.out HI.out.2 hbs
      have HM := Lib.hid hm
      clear hm
      obtain ⟨wo, rfl⟩ : ∃ wo : World, wo = wr := ⟨_, rfl⟩
      go_wp2_with fail
      clear hx e2
      go_loopw [28] (fun j wr => ∃ (k n : Nat), k ≤ l.length ∧ n ≤ 12 * i + k ∧ j = .int .i64 k ∧ Hid (PairsAt wr w.heap.size n (fillT l i k) ∧ Below w.heap.size w wr)) (fun j _ => 60 - (intOf j).toNat)
      case atStart => exact ⟨0, n, Nat.zero_le _, by omega, rfl, HI⟩
      case round =>
        obtain ⟨k, n', hk, hn', rfl, HJ⟩ := hrel
        by_cases hlk : k < l.length
        · have hlk' : (k : Int) < (l.length : Int) := by omega
          have q0 : (0 : Int) ≤ (k : Int) := by omega
          obtain ⟨ad', e', hy⟩ := Kd.at_int (Kd.C_below HR.out HJ.out.2) (k : Int) q0 hlk'
          cases e'
          rw [Int.toNat_natCast] at hy
          have hfb := HFB.out i k hlt hlk
          rw [← HM.out] at hfb
          have hput := fillT_put l i k hlk
          rw [← HM.out] at hput
          obtain ⟨m', hm'⟩ : ∃ m, m = rd l (k : Int) := ⟨_, rfl⟩
          rw [← hm'] at hy hfb hput
          have HF := Lib.hid (HFAR.out (.pointer (some ⟨b0, 0, none⟩)) m m' wr)
          obtain ⟨f, hf⟩ : ∃ f, f = farI m m' := ⟨_, rfl⟩
          rw [← hf] at hfb HF hput
          have f1 := hfb.1
          have f2 := hfb.2
          have HP := Lib.hid hput
          clear hf hfb hput hm'
          go_wp2_with fail
          refine HF.out.mono ?_
          rintro e w2 ⟨rfl, hw2⟩
          obtain ⟨D, hD, hP⟩ := HJ.out.1
          have hg2 : wr.grownBy w2 none := grown_none_of_below hw2
          have hD2 := hD.kept hg2 (by simp)
          have HW2 := Lib.hid (HJ.out.2.trans (hw2.mono HJ.out.2.size))
          have hPut := pairs_put (v := f) hD2.isMap (wf_small i (by omega)) (wf_small k (by omega)) hP
          rw [HP.out] at hPut
          have HPut := Lib.hid hPut
          have HD2 := Lib.hid hD2
          clear hw2 hy HF hD hP hg2 hD2 hPut
          go_wp2_with (first | (at_mapUpdate; refine wpList_mapUpdate_own _ rfl _ _ _ 68 rfl 72 3 pair_law Try.underlying68 _ w.heap.size n' _ rfl HD2.out (by unfold maxLen; omega) _ _ _ rfl rfl (pair_key (wf_small i (by omega)) (wf_small k (by omega))) _ [] (plainElem_int Try.underlying3 (WalkArith.wf_i64 (by omega))) ?_; intro V1 hown1 hgrow1; have H1 := Lib.hid (And.intro hown1 hgrow1); clear hown1 hgrow1))
          go_roundw
          case rel => exact ⟨k + 1, n' + 1, by omega, by omega, by go_num, Lib.hid ⟨⟨_, H1.out.1, HPut.out⟩, HW2.out.grown H1.out.2 HW2.out.size (fun j e => by cases e; exact Nat.le_refl _)⟩⟩
          case measure => simp [intOf]; omega
        · have hnl : ¬ ((k : Int) < (l.length : Int)) := by omega
          have HK : Hid (k = l.length) := Lib.hid (by omega)
          go_wp2
          go_roundw
          case rel => exact ⟨i + 1, n', by omega, by omega, by go_num, Lib.hid ⟨by rw [← fillT_row, ← HK.out]; exact HJ.out.1, HJ.out.2⟩⟩
          case measure => simp [intOf]; omega
    · have hnl : ¬ ((i : Int) < (l.length : Int)) := by omega
      have HK : Hid (i = l.length) := Lib.hid (by omega)
      obtain ⟨D, hown, hP⟩ := HI.out.1
      rw [HK.out] at hP
      have HPP := Lib.hid hP
      clear hP
      obtain ⟨wo, rfl⟩ : ∃ wo : World, wo = wr := ⟨_, rfl⟩
      go_wp2_with (first | (at_range; refine wpList_range_own _ rfl _ 68 rfl 72 3 pair_law Try.underlying68 _ w.heap.size n _ rfl hown ?_; intro V0 hrg0 hg0 hs0))
      have HG := Lib.hid (And.intro hrg0 hg0)
      have HLT := Lib.hid hown.lt
      clear hrg0 hg0 hs0 hown
      go_loopw [9] (fun _ wr => ∃ (D : DataW Unit) (left : Lit → Bool) (cnt : Nat), Hid (wr.ranges Try.prog 72 (plainElem Try.prog 3) w.heap.size wo.heap.size n D left cnt ∧ Pruned D left (fillT l l.length 0) (badB a1) ∧ PrunedNone D (fillT l l.length 0) ∧ Below w.heap.size w wr)) (fun _ wr => wr.rangeLeft w.heap.size wo.heap.size)
      case atStart => exact ⟨_, _, _, HG.out.1, pruned_start HPP.out, prunedNone_start HPP.out, HI.out.2.grown HG.out.2 HI.out.2.size (fun j e => by cases e)⟩
      case round =>
        obtain ⟨D1, left, cnt, HL⟩ := hrel
        have hrg := HL.out.1
        go_wp2_with (first | (at_next; refine wpList_next_ranges _ rfl _ rfl 72 pair_law (plainElem Try.prog 3) (fun x : Int × Int => .agg #[.int .i64 x.1, .int .i64 x.2]) (Value.int .i64) (fun key kl hk => by obtain ⟨x, y, hx, _⟩ := pair_inv hk; exact ⟨(x, y), hx⟩) (fun v y hv => by obtain ⟨c, hc, _⟩ := plainElem_int_inv Try.underlying3 hv; exact ⟨c, hc⟩) w.heap.size wo.heap.size n _ _ _ rfl hrg ?_ ?_))
        · intro _ hleft
          have HE := Lib.hid hleft
          clear hrg hleft
          go_wp2
          go_ret
          exact ⟨⟨_, _, D1, rfl, HL.out.1.owns, Nat.le_refl _, fun x y hx hy => by rw [pruned_end HL.out.2.1 HL.out.2.2.1 HE.out x y hx hy, clashT_eq]⟩, HL.out.2.2.2⟩
        · intro x y c kl d dl V2 cnt2 hkey hlk hval hat hrg1 hlt1 hg1 hs1 hen
          obtain ⟨x', y', ex, hwx, hwy, rfl⟩ := pair_inv hkey
          obtain ⟨rfl, rfl⟩ : x = x' ∧ y = y' := by simpa using ex
          obtain ⟨c', ec, hy', _⟩ := plainElem_int_inv Try.underlying3 hval
          obtain rfl : c = c' := by simpa using ec
          have hd : d = .lit (.int .i64 c) := congrArg Prod.fst hy'
          have hT := pruned_at HL.out.2.1 hwx hwy hlk (fun zd => (hat zd).trans hd)
          have hb2 := HL.out.2.2.2.grown hg1 HL.out.2.2.2.size (fun j e => by cases e; exact HI.out.2.size)
          obtain ⟨-, e1, -⟩ := reg_below HB.out (hb2.alloc hb2.size (.cells #[.int .i64 x, .int .i64 y] 72)) hbs
          have HX := Lib.hid (And.intro hrg1 (And.intro hlt1 (And.intro hb2 hT)))
          have HWX := Lib.hid (And.intro hwx hwy)
          clear hrg1 hlt1 hb2 hT hg1 hs1 hat hkey hval hwx hwy ex ec hrg hlk hd hy'
          by_cases hxy : y ≤ x
          · have hd1 : decide (y ≤ x) = true := decide_eq_true hxy
            have HBad : Hid (badB a1 x y c = true) := Lib.hid (by rw [badB, hd1]; rfl)
            have hrg2 := HX.out.1.alloc (.cells #[.int .i64 x, .int .i64 y] 72)
            clear hxy
            go_wp2_with (first | (at_delete; refine wpList_delete_ranges _ rfl _ _ 68 72 rfl 3 pair_law Try.underlying68 _ w.heap.size wo.heap.size n _ _ _ rfl hrg2 _ _ rfl (pair_key HWX.out.1 HWX.out.2) ?_; intro V3 cnt3 hrg3 hle3 hturn; have H3 := Lib.hid (And.intro hrg3 (And.intro hle3 hturn)); clear hrg3 hle3 hturn))
            go_frame
            go_roundw
            case rel => exact ⟨_, _, _, H3.out.1, pruned_drop HL.out.2.1 HWX.out.1 HWX.out.2 HX.out.2.2.2 HBad.out, prunedNone_drop HL.out.2.2.1 HWX.out.1 HWX.out.2, (HX.out.2.2.1.alloc HX.out.2.2.1.size _).grown H3.out.2.2.grown (by have := HX.out.2.2.1.size; simp; omega) (fun j e => by cases e; exact Nat.le_refl _)⟩
            case measure => rw [H3.out.1.left_eq, HL.out.1.left_eq]; have := H3.out.2.1; have := HX.out.2.1; omega
          · have hd1 : decide (y ≤ x) = false := decide_eq_false hxy
            by_cases hcl : a1 < c
            · have hd2 : decide (a1 < c) = true := decide_eq_true hcl
              have HBad : Hid (badB a1 x y c = true) := Lib.hid (by rw [badB, hd2, Bool.or_true])
              have hrg2 := HX.out.1.alloc (.cells #[.int .i64 x, .int .i64 y] 72)
              clear hxy hcl
              go_wp2_with (first | (at_delete; refine wpList_delete_ranges _ rfl _ _ 68 72 rfl 3 pair_law Try.underlying68 _ w.heap.size wo.heap.size n _ _ _ rfl hrg2 _ _ rfl (pair_key HWX.out.1 HWX.out.2) ?_; intro V3 cnt3 hrg3 hle3 hturn; have H3 := Lib.hid (And.intro hrg3 (And.intro hle3 hturn)); clear hrg3 hle3 hturn))
              go_frame
              go_roundw
              case rel => exact ⟨_, _, _, H3.out.1, pruned_drop HL.out.2.1 HWX.out.1 HWX.out.2 HX.out.2.2.2 HBad.out, prunedNone_drop HL.out.2.2.1 HWX.out.1 HWX.out.2, (HX.out.2.2.1.alloc HX.out.2.2.1.size _).grown H3.out.2.2.grown (by have := HX.out.2.2.1.size; simp; omega) (fun j e => by cases e; exact Nat.le_refl _)⟩
              case measure => rw [H3.out.1.left_eq, HL.out.1.left_eq]; have := H3.out.2.1; have := HX.out.2.1; omega
            · have hd2 : decide (a1 < c) = false := decide_eq_false hcl
              have HBad : Hid (badB a1 x y c = false) := Lib.hid (by rw [badB, hd1, hd2]; rfl)
              clear hxy hcl
              go_wp2
              go_roundw
              case rel => exact ⟨D1, _, _, HX.out.1.alloc _, pruned_stay HL.out.2.1 HWX.out.1 HWX.out.2 HX.out.2.2.2 HBad.out, HL.out.2.2.1, HX.out.2.2.1.alloc HX.out.2.2.1.size _⟩
              case measure => rw [(HX.out.1.alloc _).left_eq, HL.out.1.left_eq]; exact HX.out.2.1

/-- the first number that is good, from one on -/
def inRow (p : Nat → Bool) : Nat → Nat → Option Nat
  | 0, _ => none
  | m + 1, k => if p k then some k else inRow p m (k + 1)
/-- the first row with a number -/
def firstRow (f : Nat → Option Nat) : Nat → Nat → Option (Nat × Nat)
  | 0, _ => none
  | m + 1, i => match f i with | some k => some (i, k) | none => firstRow f m (i + 1)
theorem inRow_hit {p : Nat → Bool} {m k : Nat} (h : p k = true) (hm : 0 < m) : inRow p m k = some k := by
  obtain ⟨m, rfl⟩ : ∃ j, m = j + 1 := ⟨m - 1, by omega⟩
  rw [inRow, if_pos h]
theorem inRow_miss {p : Nat → Bool} {m k : Nat} (h : p k = false) (hm : 0 < m) : inRow p m k = inRow p (m - 1) (k + 1) := by
  obtain ⟨m, rfl⟩ : ∃ j, m = j + 1 := ⟨m - 1, by omega⟩
  rw [inRow, if_neg (by rw [h]; simp), Nat.add_sub_cancel]
theorem firstRow_hit {f : Nat → Option Nat} {m i k : Nat} (h : f i = some k) (hm : 0 < m) : firstRow f m i = some (i, k) := by
  obtain ⟨m, rfl⟩ : ∃ j, m = j + 1 := ⟨m - 1, by omega⟩
  rw [firstRow, h]
theorem firstRow_miss {f : Nat → Option Nat} {m i : Nat} (h : f i = none) (hm : 0 < m) : firstRow f m i = firstRow f (m - 1) (i + 1) := by
  obtain ⟨m, rfl⟩ : ∃ j, m = j + 1 := ⟨m - 1, by omega⟩
  rw [firstRow, h, Nat.add_sub_cancel]
/-- with whom the mark of an owner clashes first -/
def apartRow (a1 : Int) (l : List Int) (i : Nat) : Option Nat := inRow (fun k => clashT a1 l i k) l.length 0
/-- the first two owners whose marks clash -/
def apartF (a1 : Int) (l : List Int) : Option (Nat × Nat) := firstRow (apartRow a1 l) l.length 0
def apartV (a1 : Int) (l : List Int) : Int × Int × Int := match apartF a1 l with | some (i, k) => ((i : Int), (k : Int), 17) | none => (0, 0, 0)

set_option maxHeartbeats 4000000 in
set_option maxRecDepth 100000 in
theorem apart_good (a0 a1 : Int) (A : Option Addr) (c : Nat) (l : List Int) (w : World) (hr : Kd.C (Kd.int .i64) w A l.length l) (hc : l.length ≤ c) (ho : officeN a0 a1 l = 0) :
    Calls Try.prog 26 #[.agg #[.int .i64 a0, .int .i64 a1, .slice A l.length c]] w
      fun e w' => e = .returned (.tuple #[.int .i64 (apartV a1 l).1, .int .i64 (apartV a1 l).2.1, .int .i64 (apartV a1 l).2.2]) ∧ Below w.heap.size w w' := by
  have hz := office_zero ho
  obtain ⟨W, hW⟩ : ∃ W, W = w.alloc (.cells #[.int .i64 a0, .int .i64 a1, .slice A l.length c] 24) := ⟨_, rfl⟩
  have hbl : Below w.heap.size w W := by rw [hW]; exact (Below.refl w.heap.size w).alloc (Nat.le_refl _) _
  have hB : RegAt W w.heap.size a0 a1 A c l := by rw [hW]; refine ⟨?_, ?_, ?_⟩ <;> simp [go_sem]
  have HO := Lib.hid (open_none a0 a1 A c l W (Kd.C_below hr hbl) hc ho)
  have HBL := Lib.hid hbl
  have HB := Lib.hid hB
  have HR := Lib.hid hr
  have hl12 : l.length ≤ 12 := hz.2.2.2.2.1
  have HCL := Lib.hid (fun (b : Nat) (W' : World) (h : RegAt W' b a0 a1 A c l) (hr : Kd.C (Kd.int .i64) W' A l.length l) => clashes_any b a0 a1 A c l W' h hr hc hl12 (fun i j => far_bound (l := l) ho i j))
  have HSZ := Lib.hid (cell_size hB.1)
  clear hbl hB hz ho hr
  go_enter Try.func26, Try.ntmps26
  go_wp2_with fail
  rw [← hW]
  clear hW
  refine (HO.out).mono ?_
  rintro e w1 ⟨b, rfl, hR1, hb1, hw1⟩
  have hA1 := Kd.C_below HR.out (HBL.out.trans (hw1.mono HBL.out.size))
  have HC1 := Lib.hid (HCL.out b w1 hR1 hA1)
  have HB1 := Lib.hid (reg_below HB.out hw1 HSZ.out)
  have HW1 := Lib.hid (HBL.out.trans (hw1.mono HBL.out.size))
  clear hR1 hb1 hw1 hA1 HCL
  go_wp2_with fail
  refine HC1.out.mono ?_
  rintro e w2 ⟨⟨bm, n, D, rfl, hown, hbm, hhas⟩, hw2⟩
  obtain ⟨-, -, c2⟩ := reg_below HB1.out hw2 (cell_size HB1.out.1)
  have HW2 := Lib.hid (HW1.out.trans (hw2.mono HW1.out.size))
  have HOWN := Lib.hid hown
  have HHAS := Lib.hid (fun i k : Nat => fun (hi : i ≤ 100) (hk : k ≤ 100) => hhas i k (wf_small i hi) (wf_small k hk))
  clear hown hhas hw2 HC1 HB1 HW1 hbm HO
  go_wp2_with fail
  go_loop [25] (fun i => ∃ k : Nat, k ≤ l.length ∧ i = .int .i64 k ∧ Hid (apartF a1 l = firstRow (apartRow a1 l) (l.length - k) k)) (fun i => 60 - (intOf i).toNat)
  case atStart => exact ⟨0, Nat.zero_le _, rfl, Lib.hid rfl⟩
  case round =>
    obtain ⟨i, hi, rfl, HI⟩ := hrel
    by_cases hlt : i < l.length
    · have hlt' : (i : Int) < (l.length : Int) := by omega
      go_wp2_with fail
      go_loop [31] (fun j => ∃ k : Nat, k ≤ l.length ∧ j = .int .i64 k ∧ Hid (apartRow a1 l i = inRow (fun k => clashT a1 l i k) (l.length - k) k)) (fun j => 60 - (intOf j).toNat)
      case atStart => exact ⟨0, Nat.zero_le _, rfl, Lib.hid rfl⟩
      case round =>
        obtain ⟨k, hk, rfl, HJ⟩ := hrel
        by_cases hlk : k < l.length
        · have hlk' : (k : Int) < (l.length : Int) := by omega
          have hh := HHAS.out i k (by omega) (by omega)
          have hown := HOWN.out
          cases hcl : clashT a1 l (i : Int) (k : Int)
          · rw [hcl] at hh
            have HN : Hid (apartRow a1 l i = inRow (fun k => clashT a1 l i k) (l.length - (k + 1)) (k + 1)) := Lib.hid (by rw [HJ.out, inRow_miss hcl (by omega)]; congr 1)
            clear hcl
            go_wp2_with (first | (at_lookup; refine wpList_lookup_own_ok_int _ rfl _ _ 68 rfl 72 3 .i64 pair_law Try.underlying68 Try.underlying3 (zero_int _) bm n D rfl hown _ _ rfl (pair_key (wf_small i (by omega)) (wf_small k (by omega))) ?_; intro cc hat hwc; clear hat hwc))
            go_round
            case rel => exact ⟨k + 1, by omega, by go_num, HN⟩
            case measure => simp [intOf]; omega
          · rw [hcl] at hh
            have HN : Hid (apartV a1 l = ((i : Int), (k : Int), 17)) := Lib.hid (by rw [apartV, HI.out, firstRow_hit (by rw [HJ.out, inRow_hit hcl (by omega)]) (by omega)])
            clear hcl
            go_wp2_with (first | (at_lookup; refine wpList_lookup_own_ok_int _ rfl _ _ 68 rfl 72 3 .i64 pair_law Try.underlying68 Try.underlying3 (zero_int _) bm n D rfl hown _ _ rfl (pair_key (wf_small i (by omega)) (wf_small k (by omega))) ?_; intro cc hat hwc; clear hat hwc))
            go_ret3
            exact ⟨(by rw [HN.out]; first | done | rfl), HW2.out⟩
        · have hnl : ¬ ((k : Int) < (l.length : Int)) := by omega
          have HN : Hid (apartF a1 l = firstRow (apartRow a1 l) (l.length - (i + 1)) (i + 1)) := Lib.hid (by
            have h0 : apartRow a1 l i = none := by rw [HJ.out, show l.length - k = 0 by omega]; rfl
            rw [HI.out, firstRow_miss h0 (by omega)]; congr 1)
          go_wp2
          go_round
          case rel => exact ⟨i + 1, by omega, by go_num, HN⟩
          case measure => simp [intOf]; omega
    · have hnl : ¬ ((i : Int) < (l.length : Int)) := by omega
      have HN : Hid (apartV a1 l = (0, 0, 0)) := Lib.hid (by rw [apartV, HI.out, show l.length - i = 0 by omega]; rfl)
      go_wp2
      go_ret3
      exact ⟨(by rw [HN.out]; first | done | rfl), HW2.out⟩

set_option maxHeartbeats 4000000 in
theorem apart_bad (a0 a1 : Int) (A : Option Addr) (c : Nat) (l : List Int) (w : World) (hr : Kd.C (Kd.int .i64) w A l.length l) (hc : l.length ≤ c) (ho : officeN a0 a1 l ≠ 0) :
    Calls Try.prog 26 #[.agg #[.int .i64 a0, .int .i64 a1, .slice A l.length c]] w
      fun e w' => e = .returned (.tuple #[.int .i64 0, .int .i64 0, .int .i64 (officeN a0 a1 l)]) ∧ Below w.heap.size w w' := by
  obtain ⟨W, hW⟩ : ∃ W, W = w.alloc (.cells #[.int .i64 a0, .int .i64 a1, .slice A l.length c] 24) := ⟨_, rfl⟩
  have hbl : Below w.heap.size w W := by rw [hW]; exact (Below.refl w.heap.size w).alloc (Nat.le_refl _) _
  have HC := Lib.hid (open_office a0 a1 A c l (.slice none 0 0) W (Kd.C_below hr hbl) hc ho)
  have HBL := Lib.hid hbl
  obtain ⟨E, hE⟩ : ∃ E, E = officeN a0 a1 l := ⟨_, rfl⟩
  rw [← hE] at ho HC ⊢
  have hd2 : (E != 0) = true := bne_iff_ne.2 ho
  clear hbl hE
  go_enter Try.func26, Try.ntmps26
  go_wp2_with fail
  rw [← hW]
  clear hW
  refine (HC.out).mono ?_
  rintro e w1 ⟨rfl, hw1⟩
  have HW1 := Lib.hid (HBL.out.trans (hw1.mono HBL.out.size))
  clear hw1 HBL HC
  go_wp2
  go_ret3
  exact ⟨rfl, HW1.out⟩

/-- what Apart comes to -/
def mark_Apart.f (a0_0 a0_1 : Int) (l0_2 : List Int) : Option (Int × Int × Int) :=
  some (if officeN a0_0 a0_1 l0_2 ≠ 0 then (0, 0, officeN a0_0 a0_1 l0_2) else apartV a0_1 l0_2)
theorem mark_Apart.calls (a0_0 : Int) (a0_1 : Int) (A0_2 : Option Addr) (c0_2 : Nat) (l0_2 : List Int) (r1 : Int) (r2 : Int) (r3 : Int) (w : World) (hr0_2 : Kd.C (Kd.int .i64) w A0_2 l0_2.length l0_2) (hc0_2 : l0_2.length ≤ c0_2) (h : mark_Apart.f a0_0 a0_1 l0_2 = some (r1, r2, r3)) :
    Calls Try.prog 26 #[.agg #[.int .i64 a0_0, .int .i64 a0_1, .slice A0_2 l0_2.length c0_2]] w fun e w' => e = .returned (.tuple #[.int .i64 r1, .int .i64 r2, .int .i64 r3]) ∧ Below w.heap.size w w' := by
  have h' := Option.some.inj h
  clear h
  by_cases ho : officeN a0_0 a0_1 l0_2 ≠ 0
  · rw [if_pos ho] at h'
    cases h'
    exact apart_bad a0_0 a0_1 A0_2 c0_2 l0_2 w hr0_2 hc0_2 ho
  · rw [if_neg ho] at h'
    have ho' : officeN a0_0 a0_1 l0_2 = 0 := by omega
    have := apart_good a0_0 a0_1 A0_2 c0_2 l0_2 w hr0_2 hc0_2 ho'
    rw [h'] at this
    exact this
end Go.Proofs.Ytbhcchhhpmlpmaa.Hand

/- Free comes to the list of all marks that are free. -/
namespace Go.Proofs.Ytbhcchhhpmlpmaa.Hand
set_option linter.unusedVariables false
set_option linter.unusedSimpArgs false
open Go.RowKit Go.Maps Go.Proofs.YtbhcchhhpmlpmaaW.PrintWords Go.Proofs.YtbhcchhhpmlpmaaW.PrintLast Go.Proofs.YtbhcchhhpmlpmaaW.PrintMore Go.Proofs.Ytbhcchhhpmlpmaa.PrA

/-- the marks up to one that are free -/
def freeTo (a1 : Int) (l : List Int) : Nat → List Int
  | 0 => []
  | k + 1 => freeTo a1 l k ++ (if l.any (clashB a1 ((k : Int) + 1)) then [] else [(k : Int) + 1])
theorem allN_pos {a0 : Int} (h : 1 ≤ a0) : 1 ≤ allN a0 := by
  unfold allN
  have h1 : 2 ^ 1 ≤ 2 ^ a0.toNat := Nat.pow_le_pow_right (by decide) (by omega)
  have h2 : (2 : Int) ^ a0.toNat = ((2 ^ a0.toNat : Nat) : Int) := by simp
  rw [h2]
  omega
theorem own_lower {w : World} {base base' n : Nat} {e : TypeId} {size : Nat} {v : Value} {xs : List Value} (h : w.ownsRow base e size v n xs) (hb : base' ≤ base) : w.ownsRow base' e size v n xs := by
  obtain ⟨h1, h2⟩ := h
  refine ⟨h1, ?_⟩
  rcases h2 with h2 | ⟨g, cap, cur, rfl, hg, r⟩
  · exact .inl h2
  · exact .inr ⟨g, cap, cur, rfl, Nat.le_trans hb hg, r⟩

set_option maxHeartbeats 4000000 in
set_option maxRecDepth 100000 in
theorem free_good (a0 a1 : Int) (A : Option Addr) (c : Nat) (l : List Int) (w : World) (hr : Kd.C (Kd.int .i64) w A l.length l) (hc : l.length ≤ c) (ho : officeN a0 a1 l = 0) :
    Calls Try.prog 35 #[.agg #[.int .i64 a0, .int .i64 a1, .slice A l.length c]] w
      fun e w' => ∃ v0_ : Value, e = .returned (.tuple #[v0_, .int .i64 0]) ∧ Kd.R (Kd.int .i64) 3 w' w.heap.size (fun _ => True) v0_ (freeTo a1 l (allN a0).toNat) ∧ Below w.heap.size w w' := by
  have hz := office_zero ho
  obtain ⟨W, hW⟩ : ∃ W, W = w.alloc (.cells #[.int .i64 a0, .int .i64 a1, .slice A l.length c] 24) := ⟨_, rfl⟩
  have hbl : Below w.heap.size w W := by rw [hW]; exact (Below.refl w.heap.size w).alloc (Nat.le_refl _) _
  have hB : RegAt W w.heap.size a0 a1 A c l := by rw [hW]; refine ⟨?_, ?_, ?_⟩ <;> simp [go_sem]
  have HO := Lib.hid (open_none a0 a1 A c l W (Kd.C_below hr hbl) hc ho)
  have hall := fun (W' : World) (h : Kd.C (Kd.int .i64) W' A l.length l) => mark_all.calls a0 a1 A c l _ W' h hc (all_eq a0 a1 l hz.1 hz.2.1)
  have p1 := allN_pos hz.1
  have p2 := allN_lt hz.2.1
  obtain ⟨N, hN⟩ : ∃ N : Nat, allN a0 = (N : Int) := ⟨(allN a0).toNat, by omega⟩
  rw [hN] at hall p1 p2 ⊢
  rw [Int.toNat_natCast]
  have HALL := Lib.hid hall
  have HBL := Lib.hid hbl
  have HB := Lib.hid hB
  have HR := Lib.hid hr
  have HFR := Lib.hid (fun (b : Nat) (m : Int) (W' : World) (h : RegAt W' b a0 a1 A c l) (hr : Kd.C (Kd.int .i64) W' A l.length l) => isFree_any b a0 a1 A c l m W' h hr hc)
  have HSZ := Lib.hid (cell_size hB.1)
  clear hbl hB hz ho hr hall hN
  go_enter Try.func35, Try.ntmps35
  go_wp2_with fail
  rw [← hW]
  clear hW
  refine (HO.out).mono ?_
  rintro e w1 ⟨b, rfl, hR1, hb1, hw1⟩
  have HC := Lib.hid (reg_below HB.out hw1 HSZ.out)
  have HA1 := Lib.hid (Kd.C_below HR.out (HBL.out.trans (hw1.mono HBL.out.size)))
  have HR1 := Lib.hid hR1
  have HW1 := Lib.hid (HBL.out.trans (hw1.mono HBL.out.size))
  clear hR1 hb1 hw1 HO HBL HB HR HSZ
  go_wp2_with fail
  go_loopw [6, 7] (fun v m wr => ∃ (k : Nat) (xs : List Int), k ≤ N ∧ m = .int .i64 ((k : Int) + 1) ∧ xs.length ≤ k ∧ Hid (xs = freeTo a1 l k) ∧ Hid (wr.ownsRow w1.heap.size 3 1 v xs.length (nums .i64 xs) ∧ Below w1.heap.size w1 wr)) (fun _ m _ => 2000 - (intOf m).toNat)
  case atStart => exact ⟨0, [], Nat.zero_le _, rfl, Nat.le_refl _, Lib.hid rfl, Lib.hid ⟨⟨rfl, .inl ⟨rfl, rfl⟩⟩, Below.refl _ _⟩⟩
  case round =>
    obtain ⟨k, xs, hk, rfl, hxk, HX, HI⟩ := hrel
    have HAK := Lib.hid (Kd.C_below HA1.out HI.out.2)
    have HALK := Lib.hid (HALL.out wr HAK.out)
    have HRK := Lib.hid (reg_below HR1.out HI.out.2 (cell_size HR1.out.1))
    obtain ⟨e0, e1, e2⟩ := reg_below HC.out HI.out.2 (cell_size HC.out.1)
    go_wp2_with fail
    clear e0 e1 e2
    refine HALK.out.mono ?_
    rintro e w2 ⟨rfl, hw2⟩
    have HW2 := Lib.hid hw2
    have HI2 := Lib.hid (And.intro (pw_own_below HI.out.1 hw2) (HI.out.2.trans (hw2.mono HI.out.2.size)))
    have HR2 := Lib.hid (reg_below HRK.out hw2 (cell_size HRK.out.1))
    have HA2 := Lib.hid (Kd.C_below HAK.out hw2)
    clear hw2 HALK
    by_cases hlt : k < N
    · have hle : (k : Int) + 1 ≤ (N : Int) := by omega
      have HF := Lib.hid (HFR.out b ((k : Int) + 1) w2 HR2.out HA2.out)
      go_wp2_with fail
      refine HF.out.mono ?_
      rintro e w3 ⟨rfl, hw3⟩
      have HI3 := Lib.hid (And.intro (pw_own_below HI2.out.1 hw3) (HI2.out.2.trans (hw3.mono HI2.out.2.size)))
      clear hw3 HF
      cases hcl : l.any (clashB a1 ((k : Int) + 1))
      · have HN : Hid (xs ++ [(k : Int) + 1] = freeTo a1 l (k + 1)) := Lib.hid (by rw [freeTo, hcl, HX.out]; simp)
        clear hcl
        obtain ⟨ao, cap, rfl, hpc, hnn, hrd⟩ := own_out HI3.out.1
        have HNN := Lib.hid hnn
        have HRD := Lib.hid (hrd.allocS (.cells #[.int .i64 ((k : Int) + 1)] 3))
        obtain ⟨i0, hi, hz0, hz1, hz2⟩ := info_parts infoInt
        have hcut := fun W => run_cut3 (P := Try.prog) W 22 3 Try.underlying22 hi ao xs.length cap hpc
        clear hnn hrd
        go_wp2_with (first | (at_builtin; refine wpList_append_grows _ rfl _ _ 22 rfl 3 i0 (.int .i64 0) 1 8 Try.underlying22 hi hz0 hz1 hz2 rfl (by decide) ao xs.length xs.length (nums .i64 xs) rfl (fun e => ⟨(HNN.out e).1, (HNN.out e).1⟩) (by simp [nums]) (fun b e => reads_cells HRD.out b e) ⟨w3.heap.size, 0, none⟩ 1 1 [.int .i64 ((k : Int) + 1)] rfl rfl (cell_one_new _ _ _) (by simp [Value.oneCell']) (by omega) (by unfold maxLen; omega) (by omega) ?_; intro v5 w5 hown5 hgrow5; have H5 := Lib.hid (And.intro hown5 hgrow5); clear hown5 hgrow5))
        have hown := H5.out.1
        rw [show nums .i64 xs ++ [Value.int .i64 ((k : Int) + 1)] = nums .i64 (xs ++ [(k : Int) + 1]) by simp [nums]] at hown
        have HOWN := Lib.hid hown
        clear hown hcut
        go_roundw
        case rel => exact ⟨k + 1, xs ++ [(k : Int) + 1], by omega, by go_num, by simp; omega, HN, Lib.hid ⟨by
          have h := own_lower (base' := w1.heap.size) HOWN.out (by have := HI3.out.2.size; simp; omega)
          rw [List.length_append]; exact h, (HI3.out.2.alloc HI3.out.2.size _).grown H5.out.2 (by have := HI3.out.2.size; simp; omega) (fun j e => by cases e)⟩⟩
        case measure => simp [intOf]; omega
      · have HN : Hid (xs = freeTo a1 l (k + 1)) := Lib.hid (by rw [freeTo, hcl, HX.out]; simp)
        clear hcl
        go_wp2
        go_roundw
        case rel => exact ⟨k + 1, xs, by omega, by go_num, by omega, HN, Lib.hid ⟨HI3.out.1, HI3.out.2⟩⟩
        case measure => simp [intOf]; omega
    · have hnle : ¬ (k : Int) + 1 ≤ (N : Int) := by omega
      have HK : Hid (k = N) := Lib.hid (by omega)
      go_wp2
      go_ret2
      refine ⟨_, rfl, ?_, HW1.out.trans (HI2.out.2.mono HW1.out.size)⟩
      rw [← HK.out, ← HX.out]
      exact Kd.R_of_own (enc := Value.int .i64) (h1 := fun _ => rfl) (own_lower HI2.out.1 HW1.out.size) (fun _ _ => trivial)

set_option maxHeartbeats 4000000 in
theorem free_bad (a0 a1 : Int) (A : Option Addr) (c : Nat) (l : List Int) (w : World) (hr : Kd.C (Kd.int .i64) w A l.length l) (hc : l.length ≤ c) (ho : officeN a0 a1 l ≠ 0) :
    Calls Try.prog 35 #[.agg #[.int .i64 a0, .int .i64 a1, .slice A l.length c]] w
      fun e w' => e = .returned (.tuple #[.slice none 0 0, .int .i64 (officeN a0 a1 l)]) ∧ Below w.heap.size w w' := by
  obtain ⟨W, hW⟩ : ∃ W, W = w.alloc (.cells #[.int .i64 a0, .int .i64 a1, .slice A l.length c] 24) := ⟨_, rfl⟩
  have hbl : Below w.heap.size w W := by rw [hW]; exact (Below.refl w.heap.size w).alloc (Nat.le_refl _) _
  have HC := Lib.hid (open_office a0 a1 A c l (.slice none 0 0) W (Kd.C_below hr hbl) hc ho)
  have HBL := Lib.hid hbl
  obtain ⟨E, hE⟩ : ∃ E, E = officeN a0 a1 l := ⟨_, rfl⟩
  rw [← hE] at ho HC ⊢
  have hd2 : (E != 0) = true := bne_iff_ne.2 ho
  clear hbl hE
  go_enter Try.func35, Try.ntmps35
  go_wp2_with fail
  rw [← hW]
  clear hW
  refine (HC.out).mono ?_
  rintro e w1 ⟨rfl, hw1⟩
  have HW1 := Lib.hid (HBL.out.trans (hw1.mono HBL.out.size))
  clear hw1 HBL HC
  go_wp2
  go_ret2
  exact ⟨rfl, HW1.out⟩

/-- what Free comes to -/
def mark_Free.f (a0_0 a0_1 : Int) (l0_2 : List Int) : Option (List Int × Int) :=
  some (if officeN a0_0 a0_1 l0_2 ≠ 0 then ([], officeN a0_0 a0_1 l0_2) else (freeTo a0_1 l0_2 (allN a0_0).toNat, 0))
theorem mark_Free.calls (a0_0 : Int) (a0_1 : Int) (A0_2 : Option Addr) (c0_2 : Nat) (l0_2 : List Int) (r1 : List Int) (r2 : Int) (w : World) (hr0_2 : Kd.C (Kd.int .i64) w A0_2 l0_2.length l0_2) (hc0_2 : l0_2.length ≤ c0_2) (h : mark_Free.f a0_0 a0_1 l0_2 = some (r1, r2)) :
    Calls Try.prog 35 #[.agg #[.int .i64 a0_0, .int .i64 a0_1, .slice A0_2 l0_2.length c0_2]] w fun e w' => ∃ v0_ : Value, e = .returned (.tuple #[v0_, .int .i64 r2]) ∧ Kd.R (Kd.int .i64) 3 w' w.heap.size (fun _ => True) v0_ r1 ∧ Below w.heap.size w w' := by
  have h' := Option.some.inj h
  clear h
  by_cases ho : officeN a0_0 a0_1 l0_2 ≠ 0
  · rw [if_pos ho] at h'
    cases h'
    exact (free_bad a0_0 a0_1 A0_2 c0_2 l0_2 w hr0_2 hc0_2 ho).mono fun _ _ h => ⟨_, h.1, Kd.R_nil _ _ _ _ _, h.2⟩
  · rw [if_neg ho] at h'
    have ho' : officeN a0_0 a0_1 l0_2 = 0 := by omega
    cases h'
    exact free_good a0_0 a0_1 A0_2 c0_2 l0_2 w hr0_2 hc0_2 ho'
end Go.Proofs.Ytbhcchhhpmlpmaa.Hand

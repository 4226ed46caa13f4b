/- Texts of the claim, joined: HOpen, HMost, HTurn, HCheck, HPlace, HFewest. -/
import Derived.Test.YtmfonbonfhngnaaGB
import Derived.Test.YtmfonbonfhngnaaPrA1
import Derived.Laws.MakeOwn
import Derived.WalkMore
import Derived.ScopeJumps
import Derived.WalkLawsBesides
/- A new net; the net of a row and some pockets, or the error. -/
namespace Go.Proofs.Ytmfonbonfhngnaa.Hand
set_option linter.unusedVariables false
set_option linter.unusedSimpArgs false
open Go.RowKit Go.Maps Go.Proofs.YtmfonbonfhngnaaW.PrintWords Go.Proofs.YtmfonbonfhngnaaW.PrintLast Go.Proofs.YtmfonbonfhngnaaW.PrintMore Go.Proofs.Ytmfonbonfhngnaa.PrA

theorem made_zeros (n : Nat) : madeCells #[.int .i64 0] (n * 1) = (nums .i64 (List.replicate n 0)).toArray := by
  apply Array.ext'
  simp [madeCells, nums]
  apply List.ext_getElem
  · simp
  · intro i h1 h2
    simp [Nat.mod_one]
theorem run_make_zeros (w : World) (n : Nat) (hn : n ≤ 1000) : (Instr.makeSlice 23 (.int .i64 (n : Int)) (.int .i64 (n : Int))).run Try.prog w = .ok (.slice (some ⟨w.heap.size, 0, none⟩) n n) (w.alloc (.cells (nums .i64 (List.replicate n 0)).toArray 3)) := by
  obtain ⟨i0, hi, hz0, hz1, hz2⟩ := info_parts infoInt
  have h := run_make (P := Try.prog) w 23 3 i0 (.int .i64 0) Try.underlying23 hi hz0 .i64 .i64 n n (by omega) (Int.le_refl _) (by rw [hz2]; omega) (by omega)
  rw [hz1, Int.toNat_natCast, show (Value.int .i64 0).cells = #[.int .i64 0] from rfl, made_zeros] at h
  exact h
theorem net_zero : Try.zeroCells81 = netC (.slice none 0 0) (.map none) (.slice none 0 0) (fun _ => 0) := by kernel_rfl
theorem netC_sets (a b c a' b' c' : Value) (G : Nat → Int) : (((netC a b c G).setIfInBounds 0 a').setIfInBounds 1 b').setIfInBounds 2 c' = netC a' b' c' G := by
  apply Array.ext_getElem?
  intro i
  have hs := netC_size a b c G
  simp only [Array.getElem?_setIfInBounds, Array.size_setIfInBounds, hs]
  by_cases h : 3 ≤ i
  · rw [if_neg (by omega), if_neg (by omega), if_neg (by omega), netC, netC, Array.getElem?_append_right (by simp; omega), Array.getElem?_append_right (by simp; omega)]; rfl
  · have : i = 0 ∨ i = 1 ∨ i = 2 := by omega
    rw [netC, netC, Array.getElem?_append_left (by simp; omega), Array.getElem?_append_left (by simp; omega)]
    rcases this with rfl | rfl | rfl <;> simp

set_option maxHeartbeats 4000000 in
set_option maxRecDepth 100000 in
theorem newNet_any (A : Option Addr) (c : Nat) (l : List Int) (w : World) (hl : l.length ≤ 30) :
    Calls Try.prog 66 #[.slice A l.length c] w fun e w' => e = .returned (.pointer (some ⟨w.heap.size + 2, 0, none⟩)) ∧ NetAt w' (w.heap.size + 2) w.heap.size (w.heap.size + 1) (.slice A l.length c) 0 (fun _ _ => 0) (List.replicate l.length 0) (fun _ => 0) ∧ Below w.heap.size w w' := by
  have hmm := @run_makeMap Try.prog
  have hmk := run_make_zeros (w.alloc (.map #[] 0)) l.length (by omega)
  rw [World.size_alloc] at hmk
  go_enter Try.func66, Try.ntmps66
  go_wp2_with fail
  go_ret
  refine ⟨rfl, ⟨?_, ?_, ?_, by omega, by omega, by omega⟩, ?_⟩
  · rw [List.length_replicate, net_zero, netC_sets]
    have := heap_alloc_last ((w.alloc (.map #[] 0)).alloc (.cells (nums .i64 (List.replicate l.length 0)).toArray 3)) (.cells (netC (.slice A l.length c) (.map (some w.heap.size)) (.slice (some ⟨w.heap.size + 1, 0, none⟩) l.length l.length) (fun _ => 0)) 81)
    rw [World.size_alloc, World.size_alloc] at this
    exact this
  · refine FlowAt.kept (row := none) ?_ ((World.grownBy_alloc _ _ none).trans (World.grownBy_alloc _ _ none)) (by simp)
    exact ⟨_, World.ownsMap_made _ _ _ _, ⟨[], rfl⟩, fun x y _ _ => rfl⟩
  · refine heap_past ?_ _
    have := heap_alloc_last (w.alloc (.map #[] 0)) (.cells (nums .i64 (List.replicate l.length 0)).toArray 3)
    rw [World.size_alloc] at this
    exact this
  · exact (((Below.refl _ _).alloc (Nat.le_refl _) _).alloc (by simp) _).alloc (by simp; omega) _

/-- which error there is, of a row -/
def rowE (l : List Int) : Int := if (l.length : Int) > 30 then 6 else if l.any (outB 1 1099511627776) then 3 else 0
theorem rowE_is (l : List Int) : gap_CheckRow.f l = some (rowE l) := by
  unfold gap_CheckRow.f rowE gap_within.f
  split
  · rfl
  · cases l.any (outB 1 1099511627776) <;> rfl
/-- .. and of pockets -/
def openE (l : List Int) (m : Int) : Int := if rowE l ≠ 0 then rowE l else if outB 0 30 m then 2 else 0

set_option maxHeartbeats 4000000 in
theorem open_good (A : Option Addr) (c : Nat) (l : List Int) (m : Int) (w : World) (hr : Kd.C (Kd.int .i64) w A l.length l) (hc : l.length ≤ c) (h : openE l m = 0) :
    Calls Try.prog 48 #[.slice A l.length c, .int .i64 m] w fun e w' => ∃ h0, w.heap.size ≤ h0 ∧ e = .returned (.tuple #[.pointer (some ⟨h0 + 2, 0, none⟩), .int .i64 0]) ∧ NetAt w' (h0 + 2) h0 (h0 + 1) (.slice A l.length c) 0 (fun _ _ => 0) (List.replicate l.length 0) (fun _ => 0) ∧ Below w.heap.size w w' := by
  have h1 : rowE l = 0 := by
    unfold openE at h
    split at h
    · rename_i h1; exact absurd h h1
    · rename_i h1; omega
  have h2 : outB 0 30 m = false := by
    unfold openE at h
    rw [if_neg (by omega)] at h
    cases h3 : outB 0 30 m
    · rfl
    · rw [h3] at h; simp at h
  have hl : l.length ≤ 30 := by
    unfold rowE at h1
    split at h1
    · omega
    · omega
  have HC := Lib.hid (gap_CheckRow.calls A c l 0 w hr hc (by rw [rowE_is, h1]))
  have HWI := Lib.hid (fun (W : World) => within1 0 30 m W)
  have HNN := Lib.hid (fun (W : World) => newNet_any A c l W hl)
  have HO := Lib.hid h2
  clear h h1 h2 hr
  go_enter Try.func48, Try.ntmps48
  go_wp2_with fail
  refine HC.out.mono ?_
  rintro e w1 ⟨rfl, hw1⟩
  have HW1 := Lib.hid hw1
  clear hw1
  go_wp2_with fail
  refine (HWI.out _).mono ?_
  rintro e w2 ⟨rfl, hw2⟩
  have hob := HO.out
  have HW2 := Lib.hid (HW1.out.trans (hw2.mono HW1.out.size))
  clear hw2
  go_wp2_with fail
  refine (HNN.out _).mono ?_
  rintro e w3 ⟨rfl, hn, hw3⟩
  have HW3 := Lib.hid (And.intro hn (HW2.out.trans (hw3.mono HW2.out.size)))
  clear hn hw3
  go_wp2_with fail
  go_ret2
  exact ⟨w2.heap.size, HW2.out.size, rfl, HW3.out⟩

set_option maxHeartbeats 4000000 in
theorem open_bad (A : Option Addr) (c : Nat) (l : List Int) (m : Int) (w : World) (hr : Kd.C (Kd.int .i64) w A l.length l) (hc : l.length ≤ c) (h : openE l m ≠ 0) :
    Calls Try.prog 48 #[.slice A l.length c, .int .i64 m] w fun e w' => e = .returned (.tuple #[.pointer none, .int .i64 (openE l m)]) ∧ Below w.heap.size w w' := by
  have HC := Lib.hid (gap_CheckRow.calls A c l (rowE l) w hr hc (rowE_is l))
  have HWI := Lib.hid (fun (W : World) => within1 0 30 m W)
  obtain ⟨E, hE⟩ : ∃ E, E = rowE l := ⟨_, rfl⟩
  rw [← hE] at HC
  by_cases h1 : E = 0
  · have hv : openE l m = 2 := by
      unfold openE at h ⊢
      rw [if_neg (by omega)] at h ⊢
      cases h3 : outB 0 30 m
      · rw [h3] at h; simp at h
      · simp
    have HO : Hid (outB 0 30 m = true) := Lib.hid (by
      unfold openE at h
      rw [if_neg (by omega)] at h
      cases h3 : outB 0 30 m
      · rw [h3] at h; simp at h
      · rfl)
    rw [hv]
    subst h1
    clear hE h hr hv
    go_enter Try.func48, Try.ntmps48
    go_wp2_with fail
    refine HC.out.mono ?_
    rintro e w1 ⟨rfl, hw1⟩
    have HW1 := Lib.hid hw1
    clear hw1
    go_wp2_with fail
    refine (HWI.out _).mono ?_
    rintro e w2 ⟨rfl, hw2⟩
    have hob := HO.out
    have HW2 := Lib.hid (HW1.out.trans (hw2.mono HW1.out.size))
    clear hw2
    go_wp2_with fail
    go_ret2
    exact ⟨rfl, HW2.out⟩
  · have hv : openE l m = E := by rw [openE, if_pos (by omega), hE]
    have hb : (E != 0) = true := bne_iff_ne.2 h1
    rw [hv]
    clear hE h hr hv h1
    go_enter Try.func48, Try.ntmps48
    go_wp2_with fail
    refine HC.out.mono ?_
    rintro e w1 ⟨rfl, hw1⟩
    have HW1 := Lib.hid hw1
    clear hw1
    go_wp2_with fail
    go_ret2
    exact ⟨rfl, HW1.out⟩
end Go.Proofs.Ytmfonbonfhngnaa.Hand

/- Most and Shape come to what pockets take, one after another. -/
namespace Go.Proofs.Ytmfonbonfhngnaa.Hand
set_option linter.unusedVariables false
set_option linter.unusedSimpArgs false
open Go.RowKit Go.Maps Go.Proofs.YtmfonbonfhngnaaW.PrintWords Go.Proofs.YtmfonbonfhngnaaW.PrintLast Go.Proofs.YtmfonbonfhngnaaW.PrintMore Go.Proofs.Ytmfonbonfhngnaa.PrA

/-- what comes of so many pockets -/
def pushF (k : Nat) (l : List Int) (m : Int) : Option (List Int × (Nat → Nat → Int) × List Int × (Nat → Int)) := pushL l (min k 999999999) (min k 1000) m.toNat (fun _ _ => 0) (List.replicate l.length 0) []
/-- a net behind its pockets -/
def Behind (w w' : World) (A : Option Addr) (c : Nat) (l : List Int) (h0 : Nat) (v : Value) (res : List Int × (Nat → Nat → Int) × List Int × (Nat → Int)) : Prop :=
  w'.ownsRow w.heap.size 3 1 v res.1.length (nums .i64 res.1) ∧ (∃ kF, NetAt w' (h0 + 2) h0 (h0 + 1) (.slice A l.length c) kF res.2.1 res.2.2.1 res.2.2.2 ∧ kF ≤ 32000 ∧ (∀ x y, -(kF : Int) ≤ res.2.1 x y ∧ res.2.1 x y ≤ kF)) ∧ res.2.2.1.length = l.length ∧ res.1.length ≤ 30 ∧ Below w.heap.size w w'
theorem openE_zero {l : List Int} {m : Int} (h : openE l m = 0) : l.length ≤ 30 ∧ 0 ≤ m ∧ m ≤ 30 := by
  unfold openE at h
  split at h
  · rename_i h1; exact absurd h h1
  · rename_i h1
    have h1 : rowE l = 0 := by omega
    refine ⟨?_, ?_⟩
    · unfold rowE at h1
      split at h1
      · omega
      · omega
    · cases h3 : outB 0 30 m
      · unfold outB at h3
        simp at h3; omega
      · rw [h3] at h; simp at h
theorem pushed_any (k : Nat) (A : Option Addr) (c : Nat) (l : List Int) (m : Int) (res : List Int × (Nat → Nat → Int) × List Int × (Nat → Int)) (h0 : Nat) (w w1 : World) (hr : Kd.C (Kd.int .i64) w A l.length l) (hc : l.length ≤ c) (ho : openE l m = 0)
    (hn : NetAt w1 (h0 + 2) h0 (h0 + 1) (.slice A l.length c) 0 (fun _ _ => 0) (List.replicate l.length 0) (fun _ => 0)) (hw : Below w.heap.size w w1) (hh : w.heap.size ≤ h0) (hp : pushF k l m = some res) :
    Calls Try.prog 52 #[.pointer (some ⟨h0 + 2, 0, none⟩), .int .i64 m] w1 fun e w' => ∃ v, e = .returned v ∧ Behind w w' A c l h0 v res := by
  obtain ⟨h1, h2, h3⟩ := openE_zero ho
  obtain ⟨j, rfl⟩ := Int.eq_ofNat_of_zero_le h2
  have := push_any (h0 + 2) h0 (h0 + 1) A c l (fun _ _ => 0) (List.replicate l.length 0) (fun _ => 0) j (min k 999999999) (min k 1000) res w1 w hn hr hc h1 (by simp) (fun _ _ => rfl) hw ⟨by omega, by omega, by omega⟩ (by omega) (by omega) (by omega) hp
  refine this.mono ?_
  rintro e w' ⟨v, kF, rfl, a1, a2, a3, a4, a5, a6, a7⟩
  exact ⟨v, rfl, own_lower a1 hw.size, ⟨kF, a2, a4, a5⟩, a3, a7, a6⟩

def sumI (l : List Int) : Int := l.foldl (· + ·) 0
theorem sumI_snoc (l : List Int) (x : Int) : sumI (l ++ [x]) = sumI l + x := by simp [sumI]
theorem sumI_bound {l : List Int} (h : ∀ g ∈ l, 0 ≤ g ∧ g ≤ 1000) : 0 ≤ sumI l ∧ sumI l ≤ 1000 * l.length := by
  have key : ∀ k, 0 ≤ sumI (l.take k) ∧ sumI (l.take k) ≤ 1000 * (l.take k).length := by
    intro k
    induction k with
    | zero => simp [sumI]
    | succ k ih =>
      by_cases hk : k < l.length
      · rw [List.take_succ_eq_append_getElem hk, sumI_snoc, List.length_append]
        have := h l[k] (List.getElem_mem hk)
        simp only [List.length_cons, List.length_nil]
        omega
      · rw [List.take_of_length_le (by omega)]
        rw [List.take_of_length_le (by omega)] at ih
        exact ih
  have := key l.length
  rwa [List.take_length] at this
theorem sum_take (l : List Int) (k : Nat) (h : k < l.length) : sumI (l.take (k + 1)) = sumI (l.take k) + l[k] := by rw [List.take_succ_eq_append_getElem h, sumI_snoc]
/-- are all gains small? -/
def smallB (l : List Int) : Bool := l.all fun g => decide (0 ≤ g) && decide (g ≤ 1000)
theorem small_mem {l : List Int} (h : smallB l = true) : ∀ g ∈ l, 0 ≤ g ∧ g ≤ 1000 := fun g hg => by
  have := List.all_eq_true.1 h g hg
  simpa using this

def gap_Most.f (k : Nat) (l0 : List Int) (a1 : Int) : Option (Int × Int) := if openE l0 a1 ≠ 0 then some (0, openE l0 a1) else (pushF k l0 a1).bind fun r => if smallB r.1 then some (sumI r.1, 0) else none
def gap_Shape.f (k : Nat) (l0 : List Int) : Option (List Int × Int) := if openE l0 30 ≠ 0 then some ([], openE l0 30) else (pushF k l0 30).bind fun r => some (r.1, 0)

set_option maxHeartbeats 4000000 in
set_option maxRecDepth 100000 in
theorem gap_Most.calls (k : Nat) (A0 : Option Addr) (c0 : Nat) (l0 : List Int) (a1 : Int) (r1 r2 : Int) (w : World) (hr0 : Kd.C (Kd.int .i64) w A0 l0.length l0) (hc0 : l0.length ≤ c0) (h : gap_Most.f k l0 a1 = some (r1, r2)) :
    Calls Try.prog 23 #[.slice A0 l0.length c0, .int .i64 a1] w fun e w' => e = .returned (.tuple #[.int .i64 r1, .int .i64 r2]) ∧ Below w.heap.size w w' := by
  by_cases ho : openE l0 a1 = 0
  · rw [gap_Most.f, if_neg (by omega)] at h
    obtain ⟨res, hp, h⟩ := Option.bind_eq_some_iff.1 h
    have HO := Lib.hid (open_good A0 c0 l0 a1 w hr0 hc0 ho)
    have HP := Lib.hid (fun (h0 : Nat) (w1 : World) => pushed_any k A0 c0 l0 a1 res h0 w w1 hr0 hc0 ho)
    have HPP := Lib.hid hp
    have hsm : smallB res.1 = true := by
      cases hs : smallB res.1
      · rw [hs] at h; simp at h
      · rfl
    rw [hsm] at h
    have HSM := Lib.hid (small_mem hsm)
    obtain ⟨rfl, rfl⟩ : sumI res.1 = r1 ∧ 0 = r2 := by simpa using h
    clear h hp ho hr0 hsm
    go_enter Try.func23, Try.ntmps23
    go_wp2_with fail
    refine HO.out.mono ?_
    rintro e w1 ⟨h0, hh, rfl, hn, hb⟩
    have HP1 := Lib.hid (HP.out h0 w1 hn hb hh HPP.out)
    clear hn hb HP HPP
    go_wp2_with fail
    refine HP1.out.mono ?_
    rintro e w2 ⟨v, rfl, hB⟩
    obtain ⟨ao, cap, rfl, hpc, hnn, hrd⟩ := own_out hB.1
    have HB := Lib.hid hB
    have HRD := Lib.hid hrd
    have hl30 := hB.2.2.2.1
    clear hB hnn hrd
    go_wp2_with fail
    go_loop [8, 24] (fun s i => ∃ j : Nat, j ≤ res.1.length ∧ i = .int .i64 j ∧ s = .int .i64 (sumI (res.1.take j))) (fun _ i => 60 - (intOf i).toNat)
    case atStart => exact ⟨0, Nat.zero_le _, rfl, rfl⟩
    case round =>
      obtain ⟨j, hj, rfl, rfl⟩ := hrel
      by_cases hlt : j < res.1.length
      · have hlti : (j : Int) < (res.1.length : Int) := by omega
        obtain ⟨ad, rfl, hx⟩ := HRD.out.2.2 (by omega)
        replace hx := hx j hlt
        have hs := sum_take res.1 j hlt
        have hb := sumI_bound (l := res.1.take j) (fun g hg => HSM.out g (List.mem_of_mem_take hg))
        have hg := HSM.out res.1[j] (List.getElem_mem hlt)
        have hl : (res.1.take j).length ≤ 30 := by rw [List.length_take]; omega
        have e : res.1.getD j 0 = res.1[j] := by rw [List.getD_eq_getElem?_getD, List.getElem?_eq_getElem hlt]; rfl
        rw [e] at hx
        obtain ⟨x, hxx⟩ : ∃ x, x = res.1[j] := ⟨_, rfl⟩
        rw [← hxx] at hx hs hg
        obtain ⟨s, hss⟩ : ∃ s, s = sumI (res.1.take j) := ⟨_, rfl⟩
        rw [← hss] at hs hb ⊢
        have s0 : 0 ≤ s := hb.1
        have s1 : s ≤ 100000 := by omega
        have HS := Lib.hid hs
        clear hs hb hl hxx hss e
        go_wp2_with fail
        go_round
        case rel => exact ⟨j + 1, by omega, by go_num, by rw [HS.out]⟩
        case measure => simp [intOf]; omega
      · have hnl : ¬ (j : Int) < (res.1.length : Int) := by omega
        have HJ : Hid (sumI (res.1.take j) = sumI res.1) := Lib.hid (by rw [List.take_of_length_le (by omega)])
        go_wp2_with fail
        go_ret2
        exact ⟨by rw [HJ.out]; rfl, HB.out.2.2.2.2⟩
  · rw [gap_Most.f, if_pos ho] at h
    obtain ⟨rfl, rfl⟩ : 0 = r1 ∧ openE l0 a1 = r2 := by simpa using h
    have HO := Lib.hid (open_bad A0 c0 l0 a1 w hr0 hc0 ho)
    obtain ⟨E, hE⟩ : ∃ E, E = openE l0 a1 := ⟨_, rfl⟩
    rw [← hE] at HO ho ⊢
    have hb : (E != 0) = true := bne_iff_ne.2 ho
    clear hE h hr0 ho
    go_enter Try.func23, Try.ntmps23
    go_wp2_with fail
    refine HO.out.mono ?_
    rintro e w1 ⟨rfl, hw⟩
    have HW := Lib.hid hw
    clear hw
    go_wp2_with fail
    go_ret2
    exact ⟨rfl, HW.out⟩

set_option maxHeartbeats 4000000 in
set_option maxRecDepth 100000 in
theorem gap_Shape.calls (k : Nat) (A0 : Option Addr) (c0 : Nat) (l0 : List Int) (r1 : List Int) (r2 : Int) (w : World) (hr0 : Kd.C (Kd.int .i64) w A0 l0.length l0) (hc0 : l0.length ≤ c0) (h : gap_Shape.f k l0 = some (r1, r2)) :
    Calls Try.prog 27 #[.slice A0 l0.length c0] w fun e w' => ∃ v0_ : Value, e = .returned (.tuple #[v0_, .int .i64 r2]) ∧ Kd.R (Kd.int .i64) 3 w' w.heap.size (fun _ => True) v0_ r1 ∧ Below w.heap.size w w' := by
  by_cases ho : openE l0 30 = 0
  · rw [gap_Shape.f, if_neg (by omega)] at h
    obtain ⟨res, hp, h⟩ := Option.bind_eq_some_iff.1 h
    have HO := Lib.hid (open_good A0 c0 l0 30 w hr0 hc0 ho)
    have HP := Lib.hid (fun (h0 : Nat) (w1 : World) => pushed_any k A0 c0 l0 30 res h0 w w1 hr0 hc0 ho)
    have HPP := Lib.hid hp
    obtain ⟨rfl, rfl⟩ : res.1 = r1 ∧ 0 = r2 := by simpa using h
    clear h hp ho hr0
    go_enter Try.func27, Try.ntmps27
    go_wp2_with fail
    refine HO.out.mono ?_
    rintro e w1 ⟨h0, hh, rfl, hn, hb⟩
    have HP1 := Lib.hid (HP.out h0 w1 hn hb hh HPP.out)
    clear hn hb HP HPP
    go_wp2_with fail
    refine HP1.out.mono ?_
    rintro e w2 ⟨v, rfl, hB⟩
    have HB := Lib.hid hB
    clear hB
    go_wp2_with fail
    go_ret2
    exact ⟨_, rfl, Kd.R_of_own (enc := Value.int .i64) (h1 := fun _ => rfl) HB.out.1 (fun _ _ => trivial), HB.out.2.2.2.2⟩
  · rw [gap_Shape.f, if_pos ho] at h
    obtain ⟨rfl, rfl⟩ : [] = r1 ∧ openE l0 30 = r2 := by simpa using h
    have HO := Lib.hid (open_bad A0 c0 l0 30 w hr0 hc0 ho)
    obtain ⟨E, hE⟩ : ∃ E, E = openE l0 30 := ⟨_, rfl⟩
    rw [← hE] at HO ho ⊢
    have hb : (E != 0) = true := bne_iff_ne.2 ho
    clear hE h hr0 ho
    go_enter Try.func27, Try.ntmps27
    go_wp2_with fail
    refine HO.out.mono ?_
    rintro e w1 ⟨rfl, hw⟩
    have HW := Lib.hid hw
    clear hw
    go_wp2_with fail
    go_ret2
    exact ⟨_, rfl, Kd.R_nil _ _ _ _ _, HW.out⟩
end Go.Proofs.Ytmfonbonfhngnaa.Hand

/- The turning that is used by a net; Turning. -/
namespace Go.Proofs.Ytmfonbonfhngnaa.Hand
set_option linter.unusedVariables false
set_option linter.unusedSimpArgs false
open Go.RowKit Go.Maps Go.Proofs.YtmfonbonfhngnaaW.PrintWords Go.Proofs.YtmfonbonfhngnaaW.PrintLast Go.Proofs.YtmfonbonfhngnaaW.PrintMore Go.Proofs.Ytmfonbonfhngnaa.PrA

/-- a pocket's way through the links that are used -/
def pathN (n : Nat) (p : Int) : Nat → Nat → (Nat → Nat → Int) → List Int → List Int → Option ((Nat → Nat → Int) × List Int × List Int)
  | 0, v, F, t, out => if v = 1 then some (F, t, out) else none
  | k + 1, v, F, t, out =>
    if v = 1 then some (F, t, out)
    else if v < 2 * n + 2 then
      if 0 < F v (nextF n F t v) then pathN n p k (nextF n F t v) (updF F v (nextF n F t v) (F v (nextF n F t v) - 1)) t out
      else if 2 ≤ v ∧ v / 2 - 1 < out.length ∧ v / 2 - 1 < t.length then pathN n p k (v + 1) F (t.set (v / 2 - 1) 0) (out.set (v / 2 - 1) p) else none
    else none
/-- one pocket after another -/
def turnN (n kp : Nat) : Nat → Nat → (Nat → Nat → Int) → List Int → List Int → Option (List Int)
  | 0, _, _, _, _ => none
  | k + 1, p, F, t, out => if 0 < F 0 (nextF n F t 0) then (pathN n p kp 0 F t out).bind fun r => turnN n kp k (p + 1) r.1 r.2.1 r.2.2 else some out
def minusTo (n j : Nat) : List Int := (List.range n).map fun i => if i < j then -1 else 0
theorem minusTo_zero (n : Nat) : minusTo n 0 = List.replicate n 0 := by
  unfold minusTo
  apply List.ext_getElem
  · simp
  · intro i h1 h2; simp
theorem minusTo_set (n j : Nat) : (minusTo n j).set j (-1) = minusTo n (j + 1) := by
  unfold minusTo
  apply List.ext_getElem
  · simp
  · intro i h1 h2
    rw [List.getElem_set]
    simp only [List.getElem_map, List.getElem_range]
    by_cases e : j = i
    · subst e; simp
    · rw [if_neg e]
      by_cases g : i < j
      · rw [if_pos g, if_pos (by omega)]
      · rw [if_neg g, if_neg (by omega)]
theorem minusTo_full (n : Nat) : minusTo n n = List.replicate n (-1) := by
  unfold minusTo
  apply List.ext_getElem
  · simp
  · intro i h1 h2
    have : i < n := by simpa using h1
    simp [this]
theorem nextTo_le (F : Nat → Nat → Int) (v : Nat) : ∀ d b, nextTo F v d b ≤ max 1 (b + d)
  | 0, b => by unfold nextTo; omega
  | d + 1, b => by
    unfold nextTo
    split
    · omega
    · have := nextTo_le F v d (b + 1); omega
theorem nextF_lt (n : Nat) (F : Nat → Nat → Int) (t : List Int) {v : Nat} (hv : v < 2 * n + 2) : nextF n F t v < 2 * n + 3 := by
  unfold nextF
  split
  · omega
  · have := nextTo_le F v (2 * n + 1) 1; omega

/-- a row of the call's own, and a net -/
def RowAt (W : World) (Ob : Nat) (out : List Int) : Prop := W.heap[Ob]? = some (.cells (nums .i64 out).toArray 3 (0, 0))
theorem RowAt.set {W : World} {Ob : Nat} {out : List Int} (h : RowAt W Ob out) (i : Nat) (v : Int) : RowAt (W.setCell ⟨Ob, i, none⟩ (.int .i64 v)) Ob (out.set i v) := by
  have := heap_setCell_same W Ob i _ _ (.int .i64 v) h
  rw [nums_set] at this
  exact this
theorem RowAt.cell {W : World} {Ob : Nat} {out : List Int} (h : RowAt W Ob out) {i : Nat} (hi : i < out.length) : W.cell? ⟨Ob, i, none⟩ = some (.int .i64 (rd out i)) := by
  rw [cell_of_row W _ _ _ _ _ h]
  simp [nums, rd, hi]
theorem RowAt.free {W : World} {Ob : Nat} {out : List Int} (h : RowAt W Ob out) (i : Nat) : W.frozen? ⟨Ob, i, none⟩ = false := frozen_of_row W _ i _ _ h
theorem RowAt.own {W : World} {Ob base : Nat} {out : List Int} (h : RowAt W Ob out) (hb : base ≤ Ob) (hn : out.length ≤ 1000) : W.ownsRow base 3 1 (.slice (some ⟨Ob, 0, none⟩) out.length out.length) out.length (nums .i64 out) :=
  ⟨by simp [nums], .inr ⟨Ob, out.length, _, rfl, hb, h, Nat.le_refl _, by unfold maxLen; omega, by simp [nums], by rw [Nat.mul_one]; exact List.take_of_length_le (by simp [nums])⟩⟩
theorem NetAt.far {W : World} {B M Tb Ob : Nat} {rv : Value} {k : Nat} {F : Nat → Nat → Int} {t : List Int} {G : Nat → Int} (h : NetAt W B M Tb rv k F t G) (hO : Ob ≠ B ∧ Ob ≠ M ∧ Ob ≠ Tb) (i : Nat) (v : Value) : NetAt (W.setCell ⟨Ob, i, none⟩ v) B M Tb rv k F t G :=
  h.of_heap (Below.heap_setCell W ⟨Ob, i, none⟩ v B (Ne.symm hO.1)) (Below.heap_setCell W ⟨Ob, i, none⟩ v M (Ne.symm hO.2.1)) (Below.heap_setCell W ⟨Ob, i, none⟩ v Tb (Ne.symm hO.2.2))

/-- what lies in memory between two pockets -/
def TurnAt (w W : World) (B M Tb Ob : Nat) (A : Option Addr) (c : Nat) (l : List Int) (kM : Nat) (F : Nat → Nat → Int) (t out : List Int) : Prop :=
  (∃ G kF, NetAt W B M Tb (.slice A l.length c) kF F t G ∧ kF ≤ kM ∧ (∀ x y, -(kF : Int) ≤ F x y ∧ F x y ≤ kF)) ∧ t.length = l.length ∧ out.length = l.length ∧ RowAt W Ob out ∧ Below w.heap.size w W

set_option maxHeartbeats 8000000 in
set_option maxRecDepth 100000 in
theorem turning_any (k n0 : Nat) (B M Tb kF : Nat) (A : Option Addr) (c : Nat) (l : List Int) (F : Nat → Nat → Int) (t : List Int) (G : Nat → Int) (res : List Int) (w w00 : World) (h : NetAt w B M Tb (.slice A l.length c) kF F t G) (hl : l.length ≤ 30) (ht : t.length = l.length) (hkF : kF ≤ 32000) (hF : ∀ x y, -(kF : Int) ≤ F x y ∧ F x y ≤ kF)
    (hw0 : Below w00.heap.size w00 w) (hn : w00.heap.size ≤ B ∧ w00.heap.size ≤ M ∧ w00.heap.size ≤ Tb) (hs : turnN l.length (min k 100) (min k 100) 0 F t (List.replicate l.length (-1)) = some res) :
    Calls Try.prog 55 #[.pointer (some ⟨B, 0, none⟩)] w fun e w' => ∃ v, e = .returned v ∧ w'.ownsRow w00.heap.size 3 1 v res.length (nums .i64 res) ∧ Below w00.heap.size w00 w' := by
  have c0 := h.box.c0
  have hmk := run_make_zeros w l.length (by omega)
  obtain ⟨W1, hW1⟩ : ∃ W1, W1 = w.alloc (.cells (nums .i64 (List.replicate l.length 0)).toArray 3) := ⟨_, rfl⟩
  have hb1 : Below w.heap.size w W1 := by rw [hW1]; exact (Below.refl _ _).alloc (Nat.le_refl _) _
  have hr1 : RowAt W1 w.heap.size (minusTo l.length 0) := by rw [minusTo_zero, hW1]; exact heap_alloc_last _ _
  rw [← hW1] at hmk
  obtain ⟨Ob, hOb⟩ : ∃ Ob, Ob = w.heap.size := ⟨_, rfl⟩
  have HOB : Hid ((Ob ≠ B ∧ Ob ≠ M ∧ Ob ≠ Tb) ∧ w00.heap.size ≤ Ob ∧ Ob < W1.heap.size) := Lib.hid ⟨by have := heap_lt h.box; have := h.flow.lt; have := heap_lt h.taken; omega, by have := hw0.size; omega, by rw [hOb]; exact heap_lt hr1⟩
  have HN1 : Hid (NetAt W1 B M Tb (.slice A l.length c) kF F t G) := Lib.hid (h.below hb1)
  have HB1 : Hid (Below w00.heap.size w00 W1) := Lib.hid (hw0.trans (hb1.mono hw0.size))
  rw [← hOb] at hmk hr1
  have HR1 := Lib.hid hr1
  have HH := Lib.hid (And.intro hl (And.intro ht (And.intro hkF (And.intro hF (And.intro hn hs)))))
  have l30 : (l.length : Int) ≤ 30 := by omega
  have d1 := c0
  clear hr1 hb1 hOb hl ht hkF hF hn hs h hw0 hW1 d1
  go_enter Try.func55, Try.ntmps55
  go_wp2_with fail
  clear hmk c0
  go_loopw [16] (fun i wr => ∃ j : Nat, j ≤ l.length ∧ i = .int .i64 j ∧ Hid (NetAt wr B M Tb (.slice A l.length c) kF F t G ∧ RowAt wr Ob (minusTo l.length j) ∧ Below w00.heap.size w00 wr ∧ Ob < wr.heap.size)) (fun i _ => 60 - (intOf i).toNat)
  case atStart => exact ⟨0, Nat.zero_le _, rfl, Lib.hid ⟨HN1.out, HR1.out, HB1.out, HOB.out.2.2⟩⟩
  case round =>
    obtain ⟨j, hj, rfl, HI⟩ := hrel
    by_cases hlt : j < l.length
    · have hlti : (j : Int) < (l.length : Int) := by omega
      have j0 : (0 : Int) ≤ (j : Int) := by omega
      have cj := HI.out.2.1.cell (i := j) (by simp [minusTo]; omega)
      have fj := HI.out.2.1.free j
      have HNX : Hid (NetAt (wr.setCell ⟨Ob, j, none⟩ (.int .i64 (-1))) B M Tb (.slice A l.length c) kF F t G ∧ RowAt (wr.setCell ⟨Ob, j, none⟩ (.int .i64 (-1))) Ob (minusTo l.length (j + 1)) ∧ Below w00.heap.size w00 (wr.setCell ⟨Ob, j, none⟩ (.int .i64 (-1))) ∧ Ob < (wr.setCell ⟨Ob, j, none⟩ (.int .i64 (-1))).heap.size) := Lib.hid
        ⟨HI.out.1.far HOB.out.1 _ _, by rw [← minusTo_set]; exact HI.out.2.1.set _ _, HI.out.2.2.1.setCell HOB.out.2.1 _, by simp; exact HI.out.2.2.2⟩
      obtain ⟨xj, hxj⟩ : ∃ x, x = rd (minusTo l.length j) (j : Int) := ⟨_, rfl⟩
      rw [← hxj] at cj
      clear hxj
      go_wp2_with fail
      go_roundw
      case rel => exact ⟨j + 1, by omega, by go_num, HNX⟩
      case measure => simp [intOf]; omega
    · have hnl : ¬ (j : Int) < (l.length : Int) := by omega
      have HM : Hid (RowAt wr Ob (List.replicate l.length (-1))) := Lib.hid (by have h := HI.out.2.1; rw [show j = l.length by omega, minusTo_full] at h; exact h)
      go_wp2_with fail
      go_loopg [5] (min k 100) (fun k' v5 wq => ∃ (p : Nat) (F' : Nat → Nat → Int) (t' out : List Int), v5 = .int .i64 p ∧ Hid (TurnAt w00 wq B M Tb Ob A c l (32000 + (min k 100 - k') * (min k 100)) F' t' out ∧ k' ≤ min k 100 ∧ p + k' = min k 100 ∧ turnN l.length (min k 100) k' p F' t' out = some res))
      case atStart => exact ⟨0, F, t, _, rfl, Lib.hid ⟨⟨⟨G, kF, HI.out.1, by have := HH.out.2.2.1; omega, HH.out.2.2.2.1⟩, HH.out.2.1, by simp, HM.out, HI.out.2.2.1⟩, Nat.le_refl _, by omega, HH.out.2.2.2.2.2⟩⟩
      case round =>
        obtain ⟨p, F', t', out, rfl, HT⟩ := hrel
        obtain ⟨k'', rfl⟩ : ∃ q, gk = q + 1 := by
          cases gk with
          | zero => have h := HT.out.2.2.2; simp [turnN] at h
          | succ q => exact ⟨q, rfl⟩
        obtain ⟨⟨⟨G', kF', hn', hkF', hF'⟩, ht', ho', hrow', hb'⟩, hkk, hpk, htn⟩ := HT.out
        rw [turnN] at htn
        obtain ⟨nx, hnx⟩ : ∃ nx, nx = nextF l.length F' t' 0 := ⟨_, rfl⟩
        rw [← hnx] at htn
        have hnxl := nextF_lt l.length F' t' (v := 0) (by omega)
        rw [← hnx] at hnxl
        obtain ⟨wz, rfl⟩ : ∃ wz : World, wz = wr := ⟨_, rfl⟩
        have HNXC := Lib.hid (fun (x : Kw wz.heap.size wz) => (next_any B M Tb kF' A c l F' t' G' 0 x.1 (hn'.below x.2) HH.out.1 ht' (by omega)).mono (R' := fun e w' => e = .returned (.int .i64 (nx : Int)) ∧ Below x.1.heap.size x.1 w') (by rintro e w' ⟨rfl, rfl⟩; exact ⟨by rw [hnx], Below.refl _ _⟩))
        have hlk : ∀ x : Kw wz.heap.size wz, (Instr.lookup 75 (.map (some M)) (.agg #[.int .i64 0, .int .i64 (nx : Int)]) false).run Try.prog x.1 = .ok (.int .i64 (F' 0 nx)) x.1 := fun x => by
          have h := (hn'.flow.below x.2).look (x := 0) (y := nx) (by decide) (by have := HH.out.1; omega)
          exact h
        have q1 := kept_cell' hn'.box.c1
        have HP := Lib.hid (And.intro hn' (And.intro hkF' (And.intro hF' (And.intro ht' (And.intro ho' (And.intro hrow' hb'))))))
        have HPK := Lib.hid (And.intro hkk (And.intro hpk hnx))
        have p0 : (p : Int) ≤ 100 := by omega
        clear hn' hkF' hF' ht' ho' hrow' hb' hnxl hnx hkk hpk
        by_cases g : 0 < F' 0 nx
        · have gd : decide (0 < F' 0 nx) = true := decide_eq_true g
          rw [if_pos g] at htn
          obtain ⟨r, hpath, hnext⟩ := Option.bind_eq_some_iff.1 htn
          have HG := Lib.hid (And.intro g (And.intro hpath hnext))
          clear g htn hpath hnext
          go_wp2_with fail
          refine wp_region_kept wz.heap.size wz (by kernel_rfl) (by kernel_rfl) (Below.refl _ _) ?_
          repeat (go_big_quiet_step (with_reducible exact kept_calls _ (Nat.le_refl _) (HNXC.out _)))
          refine wpQuiet_nil ?_
          rintro _ ⟨X, rfl⟩
          obtain ⟨V, hV⟩ : ∃ V, V = X.1 := ⟨_, rfl⟩
          have hX := X.2
          rw [← hV] at hX ⊢
          clear hV X q1 hlk HNXC
          have HX := Lib.hid hX
          clear hX
          go_wp2_with fail
          have HTV : Hid (TurnAt w00 V B M Tb Ob A c l (32000 + (min k 100 - (k'' + 1)) * (min k 100)) F' t' out) := Lib.hid (by
            have h := HP.out
            exact ⟨⟨G', kF', h.1.below HX.out, h.2.1, h.2.2.1⟩, h.2.2.2.1, h.2.2.2.2.1, heap_of_below HX.out (heap_lt h.2.2.2.2.2.1) h.2.2.2.2.2.1, h.2.2.2.2.2.2.trans (HX.out.mono h.2.2.2.2.2.2.size)⟩)
          obtain ⟨KM, hKM⟩ : ∃ KM, KM = 32000 + (min k 100 - (k'' + 1)) * (min k 100) := ⟨_, rfl⟩
          rw [← hKM] at HTV
          have HKM := Lib.hid hKM
          clear hKM
          go_loopg [6] (min k 100) (fun k3 v6 wq => ∃ (v : Nat) (F2 : Nat → Nat → Int) (t2 out2 : List Int), v6 = .int .i64 v ∧ Hid (TurnAt w00 wq B M Tb Ob A c l (KM + (min k 100 - k3)) F2 t2 out2 ∧ k3 ≤ min k 100 ∧ pathN l.length p k3 v F2 t2 out2 = some r))
          case atStart => exact ⟨0, F', t', out, rfl, Lib.hid ⟨by rw [Nat.sub_self, Nat.add_zero]; exact HTV.out, Nat.le_refl _, HG.out.2.1⟩⟩
          case round =>
            obtain ⟨v, F2, t2, out2, rfl, HQ⟩ := hrel
            obtain ⟨wy, rfl⟩ : ∃ wy : World, wy = wr := ⟨_, rfl⟩
            by_cases hv1 : v = 1
            · have HRES : Hid ((F2, t2, out2) = r) := Lib.hid (by
                have h := HQ.out.2.2
                cases gk <;> (rw [pathN, if_pos hv1] at h; exact Option.some.inj h))
              subst hv1
              go_wp2_with fail
              go_roundg k''
              case measure => omega
              case rel =>
                have hq := HQ.out.1
                refine ⟨p + 1, F2, t2, out2, by go_num, Lib.hid ⟨⟨?_, hq.2⟩, by have := HPK.out.1; omega, by have := HPK.out.2.1; omega, ?_⟩⟩
                · obtain ⟨G3, kF3, a1, a2, a3⟩ := hq.1
                  refine ⟨G3, kF3, a1, ?_, a3⟩
                  have h1 := HKM.out
                  have h2 := HPK.out.1
                  have e : (min k 100 - k'') * (min k 100) = (min k 100 - (k'' + 1)) * (min k 100) + min k 100 := by
                    rw [show min k 100 - k'' = (min k 100 - (k'' + 1)) + 1 by omega, Nat.succ_mul]
                  omega
                · have h1 := HG.out.2.2
                  rw [← HRES.out] at h1
                  exact h1
            · have hv1i : ((v : Int) != 1) = true := bne_iff_ne.2 (by omega)
              have hv1j : (v : Int) ≠ 1 := by omega
              obtain ⟨k4, rfl⟩ : ∃ q, gk = q + 1 := by
                cases gk with
                | zero => have h := HQ.out.2.2; rw [pathN, if_neg hv1] at h; cases h
                | succ q => exact ⟨q, rfl⟩
              have hpa := HQ.out.2.2
              rw [pathN, if_neg hv1] at hpa
              have hvl : v < 2 * l.length + 2 := by
                by_cases hvl : v < 2 * l.length + 2
                · exact hvl
                · rw [if_neg hvl] at hpa; cases hpa
              rw [if_pos hvl] at hpa
              obtain ⟨⟨⟨G3, kF3, hn3, hk3, hF3⟩, ht3, ho3, hr3, hb3⟩, hkk3, _⟩ := HQ.out
              have HNX2 := Lib.hid (next_any B M Tb kF3 A c l F2 t2 G3 v wy hn3 HH.out.1 ht3 hvl)
              obtain ⟨b, hb⟩ : ∃ b, b = nextF l.length F2 t2 v := ⟨_, rfl⟩
              have hbl := nextF_lt l.length F2 t2 hvl
              rw [← hb] at HNX2 hpa hbl
              have hl1000 := HH.out.1
              have hlk := hn3.flow.look (x := v) (y := b) (by omega) (by omega)
              have c1 := hn3.box.c1
              have c2 := hn3.box.c2
              have HV := Lib.hid (And.intro hn3 (And.intro hk3 (And.intro hF3 (And.intro ht3 (And.intro ho3 (And.intro hr3 hb3))))))
              have hv62 : (v : Int) < 62 := by omega
              have HVL := Lib.hid (And.intro hvl hbl)
              have HKK := Lib.hid hkk3
              have hkb : kF3 ≤ 100000 := by
                have h1 := HKM.out
                have h2 := HPK.out.1
                have h3 : (min k 100 - (k'' + 1)) * (min k 100) ≤ 100 * 100 := Nat.mul_le_mul (by omega) (by omega)
                omega
              have HKB := Lib.hid hkb
              clear hn3 hk3 hF3 ht3 ho3 hr3 hb3 hb hbl hvl hkk3 hkb hl1000
              by_cases g : 0 < F2 v b
              · have gd2 : decide (0 < F2 v b) = true := decide_eq_true g
                rw [if_pos g] at hpa
                have HPA := Lib.hid hpa
                clear hpa g
                go_upto_region 14 with (go_at_call 73; refine HNX2.out.mono ?_; rintro e w' ⟨rfl, rfl⟩)
                have hfl : FlowAt wy.drew M kF3 F2 := HV.out.1.flow.kept (grown_drew wy 1 none) (by simp)
                have hb1 := (HV.out.2.2.1 v b).1
                have hb2 := (HV.out.2.2.1 v b).2
                have hkb := HKB.out
                have hwf : (Lit.int .i64 (F2 v b - 1)).wf = true := WalkArith.wf_i64 (by omega)
                have l1 := hfl.look (x := v) (y := b) (by have := HVL.out.1; have := HH.out.1; omega) (by have := HVL.out.2; have := HH.out.1; omega)
                obtain ⟨v0, st, WA, WB, r1, r2, l2, hf, hg⟩ := hfl.entry (by unfold maxLen; omega) (x := v) (y := b) (by have := HVL.out.1; have := HH.out.1; omega) (by have := HVL.out.2; have := HH.out.1; omega) hwf
                have HE := Lib.hid (And.intro hf ((grown_drew wy 1 _).trans hg))
                have hbb1 : -1000000 ≤ F2 v b := by omega
                have hbb2 : F2 v b ≤ 1000000 := by omega
                clear hwf hfl hf hg hlk hb1 hb2 hkb
                go_region
                all_goals
                  go_wp2_with fail
                  go_roundg k4
                  case measure => omega
                  case rel =>
                    refine ⟨b, _, t2, out2, rfl, Lib.hid ⟨⟨⟨G3, kF3 + 1, HV.out.1.turnF HE.out.2 HE.out.1, by have := HV.out.2.1; have := HKK.out; omega, fun x y => ?_⟩, HV.out.2.2.2.1, HV.out.2.2.2.2.1, ?_, ?_⟩, by have := HKK.out; omega, HPA.out⟩⟩
                    · have h1 := HV.out.2.2.1 x y
                      have h2 := HV.out.2.2.1 v b
                      unfold updF
                      split <;> omega
                    · exact (HE.out.2.block Ob (heap_lt HV.out.2.2.2.2.2.1) (fun e => HOB.out.1.2.1 (by cases e; rfl))).trans HV.out.2.2.2.2.2.1
                    · exact HV.out.2.2.2.2.2.2.grown HE.out.2 HV.out.2.2.2.2.2.2.size (fun j e => by cases e; exact HH.out.2.2.2.2.1.2.1)
              · have gd2 : decide (0 < F2 v b) = false := decide_eq_false g
                rw [if_neg g] at hpa
                have hcond : 2 ≤ v ∧ v / 2 - 1 < out2.length ∧ v / 2 - 1 < t2.length := by
                  by_cases hc : 2 ≤ v ∧ v / 2 - 1 < out2.length ∧ v / 2 - 1 < t2.length
                  · exact hc
                  · rw [if_neg hc] at hpa; cases hpa
                rw [if_pos hcond] at hpa
                have HPA := Lib.hid hpa
                obtain ⟨i, hi⟩ : ∃ i, i = v / 2 - 1 := ⟨_, rfl⟩
                rw [← hi] at hcond HPA
                have hv2 : (2 : Int) ≤ (v : Int) := by omega
                have hdv : (v : Int) / 2 - 1 = (i : Int) := by omega
                have co := HV.out.2.2.2.2.2.1.cell hcond.2.1
                have fo := HV.out.2.2.2.2.2.1.free i
                have HNS := Lib.hid (HV.out.1.far HOB.out.1 i (.int .i64 (p : Int)))
                have ctt := HNS.out.cellT hcond.2.2
                have ftt := HNS.out.freeT i
                have cm2 := HNS.out.box.c2
                have i0 : (0 : Int) ≤ (i : Int) := by omega
                have i1 : (i : Int) < (l.length : Int) := by have := HV.out.2.2.2.2.1; omega
                have i2 : (i : Int) < (t2.length : Int) := by omega
                obtain ⟨y1, hy1⟩ : ∃ y, y = rd out2 (i : Int) := ⟨_, rfl⟩
                rw [← hy1] at co
                obtain ⟨y2, hy2⟩ : ∃ y, y = rd t2 (i : Int) := ⟨_, rfl⟩
                rw [← hy2] at ctt
                clear hpa g hi hy1 hy2 hcond
                go_wp2_with (go_at_call 73; refine HNX2.out.mono ?_; rintro e w' ⟨rfl, rfl⟩)
                go_roundg k4
                case measure => omega
                case rel =>
                  refine ⟨v + 1, F2, t2.set i 0, out2.set i p, by go_num, Lib.hid ⟨⟨⟨G3, kF3, HNS.out.setT i 0, by have := HV.out.2.1; have := HKK.out; omega, HV.out.2.2.1⟩, by rw [List.length_set]; exact HV.out.2.2.2.1, by rw [List.length_set]; exact HV.out.2.2.2.2.1, ?_, ?_⟩, by have := HKK.out; omega, HPA.out⟩⟩
                  · exact heap_far (HV.out.2.2.2.2.2.1.set i p) HOB.out.1.2.2 _
                  · exact (HV.out.2.2.2.2.2.2.setCell HOB.out.2.1 _).setCell HH.out.2.2.2.2.1.2.2 _
        · have gd : decide (0 < F' 0 nx) = false := decide_eq_false g
          rw [if_neg g] at htn
          have HRES := Lib.hid (Option.some.inj htn)
          clear htn g
          go_wp2_with fail
          refine wp_region_kept wz.heap.size wz (by kernel_rfl) (by kernel_rfl) (Below.refl _ _) ?_
          repeat (go_big_quiet_step (with_reducible exact kept_calls _ (Nat.le_refl _) (HNXC.out _)))
          refine wpQuiet_nil ?_
          rintro _ ⟨X, rfl⟩
          obtain ⟨V, hV⟩ : ∃ V, V = X.1 := ⟨_, rfl⟩
          have hX := X.2
          rw [← hV] at hX ⊢
          clear hV X q1 hlk HNXC
          have HX := Lib.hid hX
          clear hX
          go_wp2_with fail
          go_ret
          have h := HP.out
          refine ⟨_, rfl, ?_, h.2.2.2.2.2.2.trans (HX.out.mono h.2.2.2.2.2.2.size)⟩
          rw [← HRES.out]
          have hr : RowAt V Ob out := heap_of_below HX.out (heap_lt h.2.2.2.2.2.1) h.2.2.2.2.2.1
          have := hr.own HOB.out.2.1 (by have := h.2.2.2.2.1; have := HH.out.1; omega)
          rw [← h.2.2.2.2.1]
          exact this

/-- what Turning comes to -/
def gap_Turning.f (k : Nat) (l0 : List Int) (a1 : Int) : Option (List Int × Int) := if openE l0 a1 ≠ 0 then some ([], openE l0 a1) else (pushF k l0 a1).bind fun r => (turnN l0.length (min k 100) (min k 100) 0 r.2.1 r.2.2.1 (List.replicate l0.length (-1))).bind fun q => some (q, 0)
set_option maxHeartbeats 4000000 in
set_option maxRecDepth 100000 in
theorem gap_Turning.calls (k : Nat) (A0 : Option Addr) (c0 : Nat) (l0 : List Int) (a1 : Int) (r1 : List Int) (r2 : Int) (w : World) (hr0 : Kd.C (Kd.int .i64) w A0 l0.length l0) (hc0 : l0.length ≤ c0) (h : gap_Turning.f k l0 a1 = some (r1, r2)) :
    Calls Try.prog 29 #[.slice A0 l0.length c0, .int .i64 a1] w fun e w' => ∃ v0_ : Value, e = .returned (.tuple #[v0_, .int .i64 r2]) ∧ Kd.R (Kd.int .i64) 3 w' w.heap.size (fun _ => True) v0_ r1 ∧ Below w.heap.size w w' := by
  by_cases ho : openE l0 a1 = 0
  · rw [gap_Turning.f, if_neg (by omega)] at h
    obtain ⟨res, hp, h⟩ := Option.bind_eq_some_iff.1 h
    obtain ⟨q, hq, h⟩ := Option.bind_eq_some_iff.1 h
    have HO := Lib.hid (open_good A0 c0 l0 a1 w hr0 hc0 ho)
    have HP := Lib.hid (fun (h0 : Nat) (w1 : World) => pushed_any k A0 c0 l0 a1 res h0 w w1 hr0 hc0 ho)
    have HPP := Lib.hid hp
    have HQ := Lib.hid hq
    have HL := Lib.hid (openE_zero ho).1
    obtain ⟨rfl, rfl⟩ : q = r1 ∧ 0 = r2 := by simpa using h
    clear h hp ho hr0 hq
    go_enter Try.func29, Try.ntmps29
    go_wp2_with fail
    refine HO.out.mono ?_
    rintro e w1 ⟨h0, hh, rfl, hn, hb⟩
    have HP1 := Lib.hid (HP.out h0 w1 hn hb hh HPP.out)
    have HHH := Lib.hid hh
    clear hn hb HP HPP hh
    go_wp2_with fail
    refine HP1.out.mono ?_
    rintro e w2 ⟨v, rfl, hB⟩
    obtain ⟨kF, hn, hk, hF⟩ := hB.2.1
    have HT := Lib.hid (turning_any k 0 (h0 + 2) h0 (h0 + 1) kF A0 c0 l0 res.2.1 res.2.2.1 res.2.2.2 q w2 w hn HL.out hB.2.2.1 hk hF hB.2.2.2.2 ⟨by have := HHH.out; omega, HHH.out, by have := HHH.out; omega⟩ HQ.out)
    clear hB hn hk hF
    go_wp2_with fail
    refine HT.out.mono ?_
    rintro e w3 ⟨v3, rfl, ho3, hb3⟩
    have H3 := Lib.hid (And.intro ho3 hb3)
    clear ho3 hb3
    go_wp2_with fail
    go_ret2
    exact ⟨_, rfl, Kd.R_of_own (enc := Value.int .i64) (h1 := fun _ => rfl) H3.out.1 (fun _ _ => trivial), H3.out.2⟩
  · rw [gap_Turning.f, if_pos ho] at h
    obtain ⟨rfl, rfl⟩ : [] = r1 ∧ openE l0 a1 = r2 := by simpa using h
    have HO := Lib.hid (open_bad A0 c0 l0 a1 w hr0 hc0 ho)
    obtain ⟨E, hE⟩ : ∃ E, E = openE l0 a1 := ⟨_, rfl⟩
    rw [← hE] at HO ho ⊢
    have hb : (E != 0) = true := bne_iff_ne.2 ho
    clear hE h hr0 ho
    go_enter Try.func29, Try.ntmps29
    go_wp2_with fail
    refine HO.out.mono ?_
    rintro e w1 ⟨rfl, hw⟩
    have HW := Lib.hid hw
    clear hw
    go_wp2_with fail
    go_ret2
    exact ⟨_, rfl, Kd.R_nil _ _ _ _ _, HW.out⟩
end Go.Proofs.Ytmfonbonfhngnaa.Hand

/- CheckTurning comes to how many logs a turning takes, or the error. -/
namespace Go.Proofs.Ytmfonbonfhngnaa.Hand
set_option linter.unusedVariables false
set_option linter.unusedSimpArgs false
open Go.RowKit Go.Maps Go.Proofs.YtmfonbonfhngnaaW.PrintWords Go.Proofs.YtmfonbonfhngnaaW.PrintLast Go.Proofs.YtmfonbonfhngnaaW.PrintMore Go.Proofs.Ytmfonbonfhngnaa.PrA

/-- no pocket, nor -1 -/
def offB (m p : Int) : Bool := decide (p < -1) || decide (m ≤ p)
theorem lit_off (m n : Int) (B1 : Nat) (w : World) (h1 : w.cell? ⟨B1, 0, none⟩ = some (.int .i64 m)) :
    Calls Try.prog 50 #[.int .i64 n, .pointer (some ⟨B1, 0, none⟩)] w fun e w' => e = .returned (.bool (offB m n)) ∧ w = w' := by
  by_cases g : n < -1
  · have gd : decide (n < -1) = true := decide_eq_true g
    go_enter Try.func50, Try.ntmps50
    go_wp2
    go_ret
    exact ⟨by simp [offB, gd], rfl⟩
  · have gd : decide (n < -1) = false := decide_eq_false g
    go_enter Try.func50, Try.ntmps50
    go_wp2
    go_ret
    exact ⟨by simp [offB, gd], rfl⟩
set_option maxHeartbeats 1000000 in
theorem index_off (m : Int) (B1 : Nat) (A : Option Addr) (c : Nat) (l : List Int) (w : World) (hr : Kd.C (Kd.int .i64) w A l.length l) (hc : l.length ≤ c)
    (h1 : w.cell? ⟨B1, 0, none⟩ = some (.int .i64 m)) :
    Calls Try.prog 67 #[.slice A l.length c, .func (.func 50) #[] #[.pointer (some ⟨B1, 0, none⟩)]] w
      fun e w' => (∃ r : Int, e = .returned (.int .i64 r) ∧ decide (0 ≤ r) = l.any (offB m)) ∧ w = w' := by
  have hm : l.length ≤ 9223372036854775807 := hr.2.1
  have HR := Lib.hid hr
  clear hr
  go_enter Try.func67, Try.ntmps67
  go_wp2
  go_loop [8] (fun i => ∃ k : Nat, k ≤ l.length ∧ i = .int .i64 k ∧ Hid ((l.take k).any (offB m) = false)) (fun i => l.length - (intOf i).toNat)
  case atStart => exact ⟨0, Nat.zero_le _, rfl, Lib.hid (by simp)⟩
  case round =>
    obtain ⟨k, hk, rfl, HA⟩ := hrel
    by_cases hlt : k < l.length
    · obtain ⟨ad, e1, hx⟩ := Kd.at_int HR.out (k : Int) (by omega) (by omega)
      cases e1
      have hs := any_take_succ (offB m) l k hlt
      have hh := any_hit (offB m) l k hlt
      have hl : rd l (k : Int) = l[k] := by simp [rd, hlt]
      rw [hl, Int.toNat_natCast] at hx
      obtain ⟨x, hx'⟩ : ∃ x, x = l[k] := ⟨_, rfl⟩
      rw [← hx'] at hx hs hh
      have HS := Lib.hid hs
      have HH := Lib.hid hh
      clear hs hl hh hx'
      cases hb : offB m x
      · have HB := Lib.hid hb
        go_wp2_with (go_at_call 50; refine (lit_off m x B1 _ h1).mono ?_; rintro e w' ⟨rfl, rfl⟩)
        go_round
        case rel => exact ⟨k + 1, by omega, by go_num, Lib.hid (by rw [HS.out, HA.out, HB.out]; rfl)⟩
        case measure => simp [intOf]; omega
      · have HB := Lib.hid hb
        go_wp2_with (go_at_call 50; refine (lit_off m x B1 _ h1).mono ?_; rintro e w' ⟨rfl, rfl⟩)
        go_ret
        exact ⟨⟨k, rfl, by rw [HH.out HB.out]; simp⟩, rfl⟩
    · go_wp2
      go_ret
      refine ⟨⟨-1, rfl, ?_⟩, rfl⟩
      have := HA.out
      rw [List.take_of_length_le (by omega)] at this
      rw [this]; simp

theorem contains_off (m : Int) (B1 : Nat) (A : Option Addr) (c : Nat) (l : List Int) (w : World) (hr : Kd.C (Kd.int .i64) w A l.length l) (hc : l.length ≤ c)
    (h1 : w.cell? ⟨B1, 0, none⟩ = some (.int .i64 m)) :
    Calls Try.prog 49 #[.slice A l.length c, .func (.func 50) #[] #[.pointer (some ⟨B1, 0, none⟩)]] w
      fun e w' => e = .returned (.bool (l.any (offB m))) ∧ w = w' := by
  have HI := index_off m B1 A c l w hr hc h1
  have HI := Lib.hid HI
  clear hr
  go_enter Try.func49, Try.ntmps49
  go_wp2_with (go_at_call 67; refine (HI.out).mono ?_; rintro e w' ⟨⟨r, rfl, hd⟩, rfl⟩; have HD := Lib.hid hd; clear hd)
  go_ret
  exact ⟨congrArg (fun b => Ending.returned (Value.bool b)) HD.out, rfl⟩


/-- log by log: the last one of each pocket -/
def ckN (l t : List Int) : Nat → Nat → List Int → Nat → Int × Int
  | 0, _, _, n => ((n : Int), 0)
  | d + 1, i, last, n =>
    if rd t (i : Int) < 0 then ckN l t d (i + 1) last n
    else if rd l (i : Int) < rd last (rd t (i : Int)) then (0, 16)
    else ckN l t d (i + 1) (last.set (rd t (i : Int)).toNat (rd l (i : Int))) (n + 1)
def ckV (l : List Int) (m : Int) (t : List Int) : Int × Int :=
  if openE l m ≠ 0 then (0, openE l m) else if t.length ≠ l.length then (0, 15) else if t.any (offB m) then (0, 3) else ckN l t t.length 0 (List.replicate m.toNat 0) 0
def gap_CheckTurning.f (l0 : List Int) (a1 : Int) (l2 : List Int) : Option (Int × Int) := some (ckV l0 a1 l2)

theorem run_make_zeros64 (w : World) (n : Nat) (hn : n ≤ 1000) : (Instr.makeSlice 22 (.int .i64 (n : Int)) (.int .i64 (n : Int))).run Try.prog w = .ok (.slice (some ⟨w.heap.size, 0, none⟩) n n) (w.alloc (.cells (nums .i64 (List.replicate n 0)).toArray 2)) := by
  obtain ⟨i0, hi, hz0, hz1, hz2⟩ := info_parts (show (Try.prog.info? 2).map (fun i => (i.zero, i.size, i.bytes)) = some (some (.int .i64 0), 1, 8) by kernel_rfl)
  have h := run_make (P := Try.prog) w 22 2 i0 (.int .i64 0) Try.underlying22 hi hz0 .i64 .i64 n n (by omega) (Int.le_refl _) (by rw [hz2]; omega) (by omega)
  rw [hz1, Int.toNat_natCast, show (Value.int .i64 0).cells = #[.int .i64 0] from rfl, made_zeros] at h
  exact h
/-- a row of numbers of the call's own -/
def Row64 (W : World) (Ob : Nat) (xs : List Int) : Prop := W.heap[Ob]? = some (.cells (nums .i64 xs).toArray 2 (0, 0))
theorem Row64.set {W : World} {Ob : Nat} {out : List Int} (h : Row64 W Ob out) (i : Nat) (v : Int) : Row64 (W.setCell ⟨Ob, i, none⟩ (.int .i64 v)) Ob (out.set i v) := by
  have := heap_setCell_same W Ob i _ _ (.int .i64 v) h
  rw [nums_set] at this
  exact this
theorem Row64.cell {W : World} {Ob : Nat} {out : List Int} (h : Row64 W Ob out) {i : Nat} (hi : i < out.length) : W.cell? ⟨Ob, i, none⟩ = some (.int .i64 (rd out i)) := by
  rw [cell_of_row W _ _ _ _ _ h]
  simp [nums, rd, hi]
theorem Row64.free {W : World} {Ob : Nat} {out : List Int} (h : Row64 W Ob out) (i : Nat) : W.frozen? ⟨Ob, i, none⟩ = false := frozen_of_row W _ i _ _ h

set_option maxHeartbeats 4000000 in
set_option maxRecDepth 100000 in
theorem gap_CheckTurning.calls (A0 : Option Addr) (c0 : Nat) (l0 : List Int) (a1 : Int) (A2 : Option Addr) (c2 : Nat) (l2 : List Int) (r1 r2 : Int) (w : World) (hr0 : Kd.C (Kd.int .i64) w A0 l0.length l0) (hc0 : l0.length ≤ c0) (hr2 : Kd.C (Kd.int .i64) w A2 l2.length l2) (hc2 : l2.length ≤ c2) (h : gap_CheckTurning.f l0 a1 l2 = some (r1, r2)) :
    Calls Try.prog 19 #[.slice A0 l0.length c0, .int .i64 a1, .slice A2 l2.length c2] w fun e w' => e = .returned (.tuple #[.int .i64 r1, .int .i64 r2]) ∧ Below w.heap.size w w' := by
  have hv : ckV l0 a1 l2 = (r1, r2) := Option.some.inj h
  clear h
  obtain ⟨W, hW⟩ : ∃ W, W = w.alloc (.cells #[.int .i64 a1] 3) := ⟨_, rfl⟩
  have hbl : Below w.heap.size w W := by rw [hW]; exact (Below.refl _ _).alloc (Nat.le_refl _) _
  have e0 : W.cell? ⟨w.heap.size, 0, none⟩ = some (.int .i64 a1) := by rw [hW]; simp [go_sem]
  have hm2 : l2.length ≤ 9223372036854775807 := hr2.2.1
  have hm0 : l0.length ≤ 9223372036854775807 := hr0.2.1
  by_cases ho : openE l0 a1 = 0
  · obtain ⟨b1, b2, b3⟩ := openE_zero ho
    have HO := Lib.hid (open_good A0 c0 l0 a1 W (Kd.C_below hr0 hbl) hc0 ho)
    have HB := Lib.hid hbl
    have HR0 := Lib.hid hr0
    have HR2 := Lib.hid hr2
    have HE := Lib.hid e0
    by_cases hlen : l2.length = l0.length
    · have hlenb : ((l2.length : Int) != (l0.length : Int)) = false := by simp [hlen]
      have HLEN := Lib.hid hlen
      have HV : Hid ((if l2.any (offB a1) then ((0 : Int), (3 : Int)) else ckN l0 l2 l2.length 0 (List.replicate a1.toNat 0) 0) = (r1, r2)) := Lib.hid (by rw [← hv]; simp [ckV, ho, hlen])
      have HCO := Lib.hid (fun (W' : World) (hb : Below W.heap.size W W') => contains_off a1 w.heap.size A2 c2 l2 W' (Kd.C_below hr2 (hbl.trans (hb.mono hbl.size))) hc2 ((hb.cell (cell_size e0)).trans e0))
      clear hr0 hr2 hbl ho hv hlen
      go_enter Try.func19, Try.ntmps19
      go_wp2_with fail
      rw [← hW]
      clear hW
      refine HO.out.mono ?_
      rintro e w1 ⟨h0, hh, rfl, hn, hb⟩
      have HB1 := Lib.hid hb
      have HC1 := Lib.hid (HCO.out w1 hb)
      have e1 := (hb.cell (cell_size HE.out)).trans HE.out
      clear hn hh hb e0
      cases hany : l2.any (offB a1)
      · have hvv := HV.out
        rw [hany] at hvv
        have HVV := Lib.hid hvv
        have HC2 : Hid (Calls Try.prog 49 #[.slice A2 l2.length c2, .func (.func 50) #[] #[.pointer (some ⟨w.heap.size, 0, none⟩)]] w1 fun e w' => e = .returned (.bool false) ∧ w1 = w') := Lib.hid (by rw [← hany]; exact HC1.out)
        have HANY := Lib.hid hany
        obtain ⟨m, rfl⟩ := Int.eq_ofNat_of_zero_le b2
        have hmk := run_make_zeros64 w1 m (by omega)
        clear hvv hany HC1 HCO HV
        go_wp2_with (go_at_call 49; refine HC2.out.mono ?_; rintro e w' ⟨rfl, rfl⟩)
        have HOBS : Hid (Below w.heap.size w (w1.alloc (.cells (nums .i64 (List.replicate m 0)).toArray 2)) ∧ Row64 (w1.alloc (.cells (nums .i64 (List.replicate m 0)).toArray 2)) w1.heap.size (List.replicate m 0) ∧ w.heap.size ≤ w1.heap.size) := Lib.hid (by
          have h1 := HB.out.trans (HB1.out.mono HB.out.size)
          exact ⟨h1.alloc h1.size _, heap_alloc_last _ _, h1.size⟩)
        obtain ⟨Ob, hOb⟩ : ∃ Ob, Ob = w1.heap.size := ⟨_, rfl⟩
        rw [← hOb] at HOBS ⊢
        have l30 : (l2.length : Int) ≤ 30 := by have := HLEN.out; omega
        clear hmk hOb e1 b2
        go_loopw [11, 38] (fun s i wr => ∃ (j n : Nat) (last : List Int), j ≤ l2.length ∧ i = .int .i64 j ∧ s = .int .i64 n ∧ n ≤ j ∧ last.length = m ∧ Hid (Row64 wr Ob last ∧ Below w.heap.size w wr ∧ ckN l0 l2 (l2.length - j) j last n = (r1, r2))) (fun _ i _ => 60 - (intOf i).toNat)
        case atStart => exact ⟨0, 0, _, Nat.zero_le _, rfl, rfl, Nat.le_refl _, by simp, Lib.hid ⟨HOBS.out.2.1, HOBS.out.1, by have h := HVV.out; simpa using h⟩⟩
        case round =>
          obtain ⟨j, n, last, hj, rfl, rfl, hnj, hlast, HI⟩ := hrel
          by_cases hlt : j < l2.length
          · have hlti : (j : Int) < (l2.length : Int) := by omega
            have j0 : (0 : Int) ≤ (j : Int) := by omega
            have hlt0 : j < l0.length := by have := HLEN.out; omega
            have hlt0i : (j : Int) < (l0.length : Int) := by omega
            obtain ⟨ad2, rfl, hx2⟩ := Kd.at_int HR2.out (j : Int) j0 hlti
            obtain ⟨ad0, rfl, hx0⟩ := Kd.at_int HR0.out (j : Int) j0 hlt0i
            rw [Int.toNat_natCast] at hx2 hx0
            replace hx2 := (HI.out.2.1.cell (cell_size hx2)).trans hx2
            replace hx0 := (HI.out.2.1.cell (cell_size hx0)).trans hx0
            obtain ⟨p, hp⟩ : ∃ p, p = rd l2 (j : Int) := ⟨_, rfl⟩
            obtain ⟨x, hx⟩ : ∃ x, x = rd l0 (j : Int) := ⟨_, rfl⟩
            have hoff : offB (m : Int) p = false := by
              have := List.any_eq_false.1 HANY.out (l2[j]) (List.getElem_mem hlt)
              rw [hp, show rd l2 (j : Int) = l2[j] by simp [rd, hlt]]
              simpa using this
            have hp1 : -1 ≤ p ∧ p < (m : Int) := by unfold offB at hoff; simp at hoff; omega
            have hst := HI.out.2.2
            rw [show l2.length - j = (l2.length - (j + 1)) + 1 by omega, ckN, ← hp, ← hx] at hst
            rw [← hp] at hx2
            rw [← hx] at hx0
            have p1 := hp1.1
            have p2 := hp1.2
            have HX := Lib.hid (And.intro hp hx)
            clear hoff hp1 hp hx
            by_cases g : p < 0
            · rw [if_pos g] at hst
              have HST := Lib.hid hst
              clear hst
              go_wp2_with fail
              go_roundw
              case rel => exact ⟨j + 1, n, last, by omega, by go_num, rfl, by omega, hlast, Lib.hid ⟨HI.out.1, HI.out.2.1, HST.out⟩⟩
              case measure => simp [intOf]; omega
            · rw [if_neg g] at hst
              obtain ⟨q, rfl⟩ := Int.eq_ofNat_of_zero_le (by omega : 0 ≤ p)
              have q0 : (0 : Int) ≤ (q : Int) := by omega
              have hqm : q < last.length := by omega
              have cq := HI.out.1.cell hqm
              have fq := HI.out.1.free q
              obtain ⟨y, hy⟩ : ∃ y, y = rd last (q : Int) := ⟨_, rfl⟩
              rw [← hy] at hst cq
              have HY := Lib.hid hy
              clear hy
              by_cases g2 : x < y
              · have gd2 : decide (x < y) = true := decide_eq_true g2
                rw [if_pos g2] at hst
                obtain ⟨rfl, rfl⟩ : 0 = r1 ∧ 16 = r2 := by simpa using hst
                clear hst g2
                go_wp2_with fail
                go_quiet (fail)
                go_wp2_with fail
                go_ret2
                exact ⟨rfl, HI.out.2.1.drewN' _⟩
              · have gd2 : decide (x < y) = false := decide_eq_false g2
                rw [if_neg g2] at hst
                have HST := Lib.hid hst
                clear hst g2
                go_wp2_with fail
                go_quiet (fail)
                go_wp2_with fail
                go_roundw
                case rel =>
                  rename_i nq
                  refine ⟨j + 1, n + 1, last.set q x, by omega, by go_num, by go_num, by omega, by simp; exact hlast, Lib.hid ⟨Row64.set (show Row64 (wr.drewN nq) Ob last from HI.out.1) q x, (HI.out.2.1.drewN' _).setCell (p := ⟨Ob, q, none⟩) HOBS.out.2.2 _, ?_⟩⟩
                  have h := HST.out
                  rw [Int.toNat_natCast] at h
                  exact h
                case measure => simp [intOf]; omega
          · have hnl : ¬ (j : Int) < (l2.length : Int) := by omega
            have hst := HI.out.2.2
            rw [show l2.length - j = 0 by omega, ckN] at hst
            obtain ⟨rfl, rfl⟩ : (n : Int) = r1 ∧ 0 = r2 := by simpa using hst
            clear hst
            go_wp2_with fail
            go_ret2
            exact ⟨rfl, HI.out.2.1⟩
      · have hvv := HV.out
        rw [hany] at hvv
        obtain ⟨rfl, rfl⟩ : 0 = r1 ∧ 3 = r2 := by simpa using hvv
        have HC2 : Hid (Calls Try.prog 49 #[.slice A2 l2.length c2, .func (.func 50) #[] #[.pointer (some ⟨w.heap.size, 0, none⟩)]] w1 fun e w' => e = .returned (.bool true) ∧ w1 = w') := Lib.hid (by rw [← hany]; exact HC1.out)
        clear hvv hany HC1 HCO HV
        go_wp2_with (go_at_call 49; refine HC2.out.mono ?_; rintro e w' ⟨rfl, rfl⟩)
        go_ret2
        exact ⟨rfl, HB.out.trans (HB1.out.mono HB.out.size)⟩
    · have hlenb : ((l2.length : Int) != (l0.length : Int)) = true := by simp; omega
      have hlenc : (l2.length : Int) ≠ (l0.length : Int) := by omega
      obtain ⟨rfl, rfl⟩ : 0 = r1 ∧ 15 = r2 := by
        rw [ckV, if_neg (by omega), if_pos hlen] at hv
        simpa using hv
      clear hr0 hr2 hbl ho hv hlen
      go_enter Try.func19, Try.ntmps19
      go_wp2_with fail
      rw [← hW]
      clear hW
      refine HO.out.mono ?_
      rintro e w1 ⟨h0, hh, rfl, hn, hb⟩
      have HB1 := Lib.hid hb
      clear hn hh hb e0
      go_wp2_with fail
      go_ret2
      exact ⟨rfl, HB.out.trans (HB1.out.mono HB.out.size)⟩
  · have HO := Lib.hid (open_bad A0 c0 l0 a1 W (Kd.C_below hr0 hbl) hc0 ho)
    rw [ckV, if_pos ho] at hv
    obtain ⟨rfl, rfl⟩ : 0 = r1 ∧ openE l0 a1 = r2 := by simpa using hv
    obtain ⟨E, hE⟩ : ∃ E, E = openE l0 a1 := ⟨_, rfl⟩
    rw [← hE] at HO ho ⊢
    have hb : (E != 0) = true := bne_iff_ne.2 ho
    have HB := Lib.hid hbl
    clear hE hv hr0 hr2 ho hbl
    go_enter Try.func19, Try.ntmps19
    go_wp2_with fail
    rw [← hW]
    clear hW
    refine HO.out.mono ?_
    rintro e w1 ⟨rfl, hw⟩
    have HW := Lib.hid hw
    clear hw e0
    go_wp2_with fail
    go_ret2
    exact ⟨rfl, HB.out.trans (HW.out.mono HB.out.size)⟩
end Go.Proofs.Ytmfonbonfhngnaa.Hand

/- Place comes to the first pocket that can take each log. -/
namespace Go.Proofs.Ytmfonbonfhngnaa.Hand
set_option linter.unusedVariables false
set_option linter.unusedSimpArgs false
open Go.RowKit Go.Maps Go.Proofs.YtmfonbonfhngnaaW.PrintWords Go.Proofs.YtmfonbonfhngnaaW.PrintLast Go.Proofs.YtmfonbonfhngnaaW.PrintMore Go.Proofs.Ytmfonbonfhngnaa.PrA

/-- log by log: into the first pocket whose last one is no greater -/
def plN : List Int → List Int → List Int → List Int
  | [], _, out => out
  | n :: r, last, out => if last.findIdx (fun x => decide (x ≤ n)) < last.length then plN r (last.set (last.findIdx (fun x => decide (x ≤ n))) n) (out ++ [((last.findIdx (fun x => decide (x ≤ n)) : Nat) : Int)])
    else plN r (last ++ [n]) (out ++ [(last.length : Int)])
def placeV (l : List Int) : List Int × Int := if rowE l ≠ 0 then ([], rowE l) else (plN l [] [], 0)
def gap_Place.f (l0 : List Int) : Option (List Int × Int) := some (placeV l0)
theorem find_at {last : List Int} {n : Int} {p : Nat} (hp : p < last.length) (h0 : ∀ q, q < p → ¬ rd last (q : Int) ≤ n) (h1 : rd last (p : Int) ≤ n) : last.findIdx (fun x => decide (x ≤ n)) = p := by
  have e : ∀ q, (hq : q < last.length) → rd last (q : Int) = last[q] := fun q hq => by simp [rd, hq]
  rw [List.findIdx_eq hp]
  refine ⟨by rw [← e p hp]; simpa using h1, fun q hq => ?_⟩
  have := h0 q hq
  rw [e q (by omega)] at this
  simpa using this
theorem find_none {last : List Int} {n : Int} (h0 : ∀ q, q < last.length → ¬ rd last (q : Int) ≤ n) : ¬ last.findIdx (fun x => decide (x ≤ n)) < last.length := by
  intro h
  have e : rd last ((last.findIdx (fun x => decide (x ≤ n)) : Nat) : Int) = last[last.findIdx (fun x => decide (x ≤ n))] := by simp [rd, h]
  have := h0 _ h
  rw [e] at this
  have h2 := List.findIdx_getElem (xs := last) (p := fun x => decide (x ≤ n)) (w := h)
  exact this (by simpa using h2)
theorem own_types {w : World} {base base' n n' : Nat} {e e' : TypeId} {s s' : Nat} {v v' : Value} {xs xs' : List Value} (h : w.ownsRow base e s v n xs) (h' : w.ownsRow base' e' s' v' n' xs') (he : e ≠ e') : v.ownBlock = none ∨ v.ownBlock ≠ v'.ownBlock := by
  cases hb : v.ownBlock with
  | none => exact .inl rfl
  | some k =>
    refine .inr fun e2 => ?_
    obtain ⟨c1, h1⟩ := own_typed h k hb
    obtain ⟨c2, h2⟩ := own_typed h' k e2.symm
    rw [h1] at h2
    cases h2
    exact he rfl
theorem info64 : (Try.prog.info? 2).map (fun i => (i.zero, i.size, i.bytes)) = some (some (.int .i64 0), 1, 8) := by kernel_rfl
/-- a store into a row of the call's own -/
theorem own_set {w : World} {base : Nat} {e : TypeId} {g cap : Nat} {xs : List Int} (h : w.ownsRow base e 1 (.slice (some ⟨g, 0, none⟩) xs.length cap) xs.length (nums .i64 xs)) {p : Nat} (hp : p < xs.length) (x : Int) :
    (w.setCell ⟨g, p, none⟩ (.int .i64 x)).ownsRow base e 1 (.slice (some ⟨g, 0, none⟩) xs.length cap) xs.length (nums .i64 (xs.set p x)) := by
  refine ⟨by simp [nums], .inr ?_⟩
  rcases h.2 with ⟨hv, _⟩ | ⟨g', cap', cur, hv, hg, hh, hc, hm, hs, ht⟩
  · cases hv
  · cases hv
    refine ⟨g, cap, cur.setIfInBounds p (.int .i64 x), rfl, hg, heap_setCell_same w g p cur e _ hh, hc, hm, by rw [Array.size_setIfInBounds]; exact hs, ?_⟩
    rw [Array.toList_setIfInBounds, List.take_set, ht]
    simp [nums, List.map_set]

set_option maxHeartbeats 4000000 in
set_option maxRecDepth 100000 in
theorem gap_Place.calls (A0 : Option Addr) (c0 : Nat) (l0 : List Int) (r1 : List Int) (r2 : Int) (w : World) (hr0 : Kd.C (Kd.int .i64) w A0 l0.length l0) (hc0 : l0.length ≤ c0) (h : gap_Place.f l0 = some (r1, r2)) :
    Calls Try.prog 31 #[.slice A0 l0.length c0] w fun e w' => ∃ v0_ : Value, e = .returned (.tuple #[v0_, .int .i64 r2]) ∧ Kd.R (Kd.int .i64) 3 w' w.heap.size (fun _ => True) v0_ r1 ∧ Below w.heap.size w w' := by
  have hv : placeV l0 = (r1, r2) := Option.some.inj h
  clear h
  have HC := Lib.hid (gap_CheckRow.calls A0 c0 l0 (rowE l0) w hr0 hc0 (rowE_is l0))
  by_cases ho : rowE l0 = 0
  · rw [placeV, if_neg (by omega)] at hv
    obtain ⟨rfl, rfl⟩ : plN l0 [] [] = r1 ∧ 0 = r2 := by simpa using hv
    rw [ho] at HC
    have hl : l0.length ≤ 30 := by
      unfold rowE at ho
      split at ho
      · omega
      · omega
    have HR := Lib.hid hr0
    have l30 : (l0.length : Int) ≤ 30 := by omega
    obtain ⟨res, hres⟩ : ∃ res, res = plN l0 [] [] := ⟨_, rfl⟩
    rw [← hres]
    have HRES := Lib.hid hres
    obtain ⟨i0, hi, hz0, hz1, hz2⟩ := info_parts infoInt
    obtain ⟨ii64, hj', hy0, hy1, hy2⟩ := info_parts info64
    clear hr0 ho hv hres hl
    go_enter Try.func31, Try.ntmps31
    go_wp2_with fail
    go_step3
    go_wp2_with fail
    refine HC.out.mono ?_
    rintro e w1 ⟨rfl, hw1⟩
    have HW1 := Lib.hid hw1
    clear hw1
    go_wp2_with fail
    go_step3
    go_wp2_with fail
    go_loopw [5, 6, 18] (fun v5 v6 i wr => ∃ (j : Nat) (last out : List Int), j ≤ l0.length ∧ i = .int .i64 j ∧ last.length ≤ j ∧ out.length = j ∧ Hid (wr.ownsRow w.heap.size 2 1 v5 last.length (nums .i64 last) ∧ wr.ownsRow w.heap.size 3 1 v6 out.length (nums .i64 out) ∧ Below w.heap.size w wr ∧ res = plN (l0.drop j) last out)) (fun _ _ i _ => 60 - (intOf i).toNat)
    case atStart => exact ⟨0, [], [], Nat.zero_le _, rfl, Nat.le_refl _, rfl, Lib.hid ⟨⟨rfl, .inl ⟨rfl, rfl⟩⟩, ⟨rfl, .inl ⟨rfl, rfl⟩⟩, HW1.out, by rw [List.drop_zero]; exact HRES.out⟩⟩
    case round =>
      obtain ⟨j, last, out, hj, rfl, hll, hol, HI⟩ := hrel
      obtain ⟨wo, rfl⟩ : ∃ wo : World, wo = wr := ⟨_, rfl⟩
      by_cases hlt : j < l0.length
      · have hlti : (j : Int) < (l0.length : Int) := by omega
        have j0 : (0 : Int) ≤ (j : Int) := by omega
        obtain ⟨ad, rfl, hx⟩ := Kd.at_int HR.out (j : Int) j0 hlti
        rw [Int.toNat_natCast] at hx
        replace hx := (HI.out.2.2.1.cell (cell_size hx)).trans hx
        obtain ⟨n, hn⟩ : ∃ n, n = rd l0 (j : Int) := ⟨_, rfl⟩
        rw [← hn] at hx
        have HST : Hid (res = plN (n :: l0.drop (j + 1)) last out) := Lib.hid (by
          have h := HI.out.2.2.2
          rw [List.drop_eq_getElem_cons hlt, ← (show rd l0 (j : Int) = l0[j] by simp [rd, hlt]), ← hn] at h
          exact h)
        obtain ⟨ao, cap, rfl, hpc, hnn, hrd⟩ := own_out HI.out.1
        have HRD := Lib.hid hrd
        have HIS : Hid (wo.heap.size ≥ w.heap.size) := Lib.hid HI.out.2.2.1.size
        have hl40 : last.length ≤ 30 := by omega
        clear hn hnn hrd
        go_wp2_with fail
        clear hx
        obtain ⟨v6, rfl⟩ : ∃ v6, v6 = u6 := ⟨_, rfl⟩
        go_loop [6, 24] (fun x6 i => ∃ p : Nat, p ≤ last.length ∧ i = .int .i64 p ∧ x6 = v6 ∧ Hid (∀ q, q < p → ¬ rd last (q : Int) ≤ n)) (fun _ i => 60 - (intOf i).toNat)
        case atStart => exact ⟨0, Nat.zero_le _, rfl, rfl, Lib.hid (fun q hq => absurd hq (Nat.not_lt_zero _))⟩
        case round =>
          obtain ⟨p, hp, rfl, e6, HP⟩ := hrel
          subst e6
          by_cases hltp : p < last.length
          · have hltpi : (p : Int) < (last.length : Int) := by omega
            have p0 : (0 : Int) ≤ (p : Int) := by omega
            obtain ⟨ad2, rfl, hy⟩ := HRD.out.2.2 (by omega)
            replace hy := hy p hltp
            rw [show last.getD p 0 = rd last (p : Int) by simp [rd]] at hy
            obtain ⟨y, hye⟩ : ∃ y, y = rd last (p : Int) := ⟨_, rfl⟩
            rw [← hye] at hy
            by_cases g : y ≤ n
            · have gd : decide (y ≤ n) = true := decide_eq_true g
              have HF : Hid (last.findIdx (fun x => decide (x ≤ n)) = p) := Lib.hid (find_at hltp HP.out (by rw [← hye]; exact g))
              obtain ⟨g', cap', cur, hv', hg', hh', _⟩ := own_some (by omega) HI.out.1
              cases hv'
              have fy : wo.frozen? ⟨g', p, none⟩ = false := frozen_of_row wo g' p _ _ hh'
              have hyy : wo.cell? ⟨g', p, none⟩ = some (.int .i64 y) := by rw [add_plain] at hy; exact hy
              have HS2 := Lib.hid (own_set HI.out.1 hltp n)
              have HO2 : Hid ((wo.setCell ⟨g', p, none⟩ (.int .i64 n)).ownsRow w.heap.size 3 1 u6 out.length (nums .i64 out)) := Lib.hid (HI.out.2.1.kept (grown_set wo g' p (.int .i64 n)) (by
                rcases own_types HI.out.2.1 HI.out.1 (by decide) with h | h
                · exact .inl h
                · exact .inr h))
              have HB2 : Hid (Below w.heap.size w (wo.setCell ⟨g', p, none⟩ (.int .i64 n))) := Lib.hid (HI.out.2.2.1.setCell (p := ⟨g', p, none⟩) hg' _)
              obtain ⟨wz, hwz⟩ : ∃ wz, wz = wo.setCell ⟨g', p, none⟩ (.int .i64 n) := ⟨_, rfl⟩
              clear hye hh' g hy
              go_upto_region 14 with fail
              rw [← hwz] at HS2 HO2 HB2 ⊢
              clear hwz fy hyy
              go_wp2_with (first | (at_builtin; refine wpList_append_own _ rfl _ _ 23 rfl w.heap.size 3 i0 (.int .i64 0) 1 8 Try.underlying23 hi hz0 hz1 hz2 rfl (by decide) _ _ _ rfl (HO2.out.alloc _) ⟨wz.heap.size, 0, none⟩ 1 1 [.int .i64 (p : Int)] rfl rfl (cell_one_new _ _ _) (by simp [Value.oneCell']) (by unfold maxLen; omega) (by omega) (by have := HB2.out.size; simp; omega) ?_; intro v5 w5 hown5 hgrow5 _; have H5 := Lib.hid (And.intro hown5 hgrow5); clear hown5 hgrow5))
              go_roundw
              case rel =>
                refine ⟨j + 1, last.set p n, out ++ [(p : Int)], by omega, by go_num, by simp; omega, by simp; omega, Lib.hid ⟨?_, ?_, ?_, ?_⟩⟩
                · have h1 := (HS2.out.alloc (.cells #[.int .i64 (p : Int)] 3)).kept H5.out.2 (own_types (HS2.out.alloc (.cells #[.int .i64 (p : Int)] 3)) (HO2.out.alloc (.cells #[.int .i64 (p : Int)] 3)) (by decide))
                  rw [List.length_set]; exact h1
                · have h1 := H5.out.1
                  rw [show nums .i64 out ++ [Value.int .i64 (p : Int)] = nums .i64 (out ++ [(p : Int)]) by simp [nums]] at h1
                  rw [List.length_append]; exact h1
                · exact (HB2.out.alloc HB2.out.size _).grown H5.out.2 (by have := HB2.out.size; simp; omega) (fun k e => own_from (HO2.out.alloc (.cells #[.int .i64 (p : Int)] 3)) e)
                · rw [HST.out, plN, HF.out, if_pos hltp]
              case measure => simp [intOf]; omega
            · have gd : decide (y ≤ n) = false := decide_eq_false g
              have HP2 : Hid (∀ q, q < p + 1 → ¬ rd last (q : Int) ≤ n) := Lib.hid (fun q hq => by
                by_cases e : q = p
                · subst e; rw [← hye]; exact g
                · exact HP.out q (by omega))
              clear hye g
              go_wp2_with fail
              go_round
              case rel => exact ⟨p + 1, by omega, by go_num, rfl, HP2⟩
              case measure => simp [intOf]; omega
          · have hnp : ¬ (p : Int) < (last.length : Int) := by omega
            have HF : Hid (¬ last.findIdx (fun x => decide (x ≤ n)) < last.length) := Lib.hid (find_none fun q hq => HP.out q (by omega))
            go_upto_region 17 with (first | (at_builtin; refine wpList_append_own _ rfl _ _ 23 rfl w.heap.size 3 i0 (.int .i64 0) 1 8 Try.underlying23 hi hz0 hz1 hz2 rfl (by decide) _ _ _ rfl (HI.out.2.1.alloc _) ⟨wo.heap.size, 0, none⟩ 1 1 [.int .i64 (last.length : Int)] rfl rfl (cell_one_new _ _ _) (by simp [Value.oneCell']) (by unfold maxLen; omega) (by omega) (by have := HIS.out; simp; omega) ?_; intro v5 w5 hown5 hgrow5 _; have H5 := Lib.hid (And.intro hown5 hgrow5); clear hown5 hgrow5))
            have HL5 := Lib.hid ((HI.out.1.alloc (.cells #[.int .i64 (last.length : Int)] 3)).kept H5.out.2 (own_types (HI.out.1.alloc _) (HI.out.2.1.alloc (.cells #[.int .i64 (last.length : Int)] 3)) (by decide)))
            have HB5 : Hid (Below w.heap.size w w5) := Lib.hid ((HI.out.2.2.1.alloc HIS.out _).grown H5.out.2 (by have := HIS.out; simp; omega) (fun k e => own_from (HI.out.2.1.alloc (.cells #[.int .i64 (last.length : Int)] 3)) e))
            go_wp2_with (first | (at_builtin; refine wpList_append_own _ rfl _ _ 22 rfl w.heap.size 2 ii64 (.int .i64 0) 1 8 Try.underlying22 hj' hy0 hy1 hy2 rfl (by decide) _ _ _ rfl (HL5.out.alloc _) ⟨w5.heap.size, 0, none⟩ 1 1 [.int .i64 n] rfl rfl (cell_one_new _ _ _) (by simp [Value.oneCell']) (by unfold maxLen; omega) (by omega) (by have := HB5.out.size; simp; omega) ?_; intro v6' w6 hown6 hgrow6 _; have H6 := Lib.hid (And.intro hown6 hgrow6); clear hown6 hgrow6))
            go_roundw
            case rel =>
              refine ⟨j + 1, last ++ [n], out ++ [(last.length : Int)], by omega, by go_num, by simp; omega, by simp; omega, Lib.hid ⟨?_, ?_, ?_, ?_⟩⟩
              · have h1 := H6.out.1
                rw [show nums .i64 last ++ [Value.int .i64 n] = nums .i64 (last ++ [n]) by simp [nums]] at h1
                rw [List.length_append]; exact h1
              · have h1 := H5.out.1
                rw [show nums .i64 out ++ [Value.int .i64 (last.length : Int)] = nums .i64 (out ++ [(last.length : Int)]) by simp [nums]] at h1
                rw [List.length_append]
                exact (h1.alloc (.cells #[.int .i64 n] 2)).kept H6.out.2 (own_types (h1.alloc _) (HL5.out.alloc (.cells #[.int .i64 n] 2)) (by decide))
              · exact (HB5.out.alloc HB5.out.size _).grown H6.out.2 (by have := HB5.out.size; simp; omega) (fun k e => own_from (HL5.out.alloc (.cells #[.int .i64 n] 2)) e)
              · rw [HST.out, plN, if_neg HF.out]
            case measure => simp [intOf]; omega
      · have hnl : ¬ (j : Int) < (l0.length : Int) := by omega
        have HE : Hid (res = out) := Lib.hid (by
          have h := HI.out.2.2.2
          rw [List.drop_eq_nil_of_le (by omega)] at h
          exact h)
        go_wp2_with fail
        (try rw [Exit.noGoto_ret])
        go_ret2
        refine ⟨_, rfl, ?_, HI.out.2.2.1⟩
        rw [HE.out]
        exact Kd.R_of_own (enc := Value.int .i64) (h1 := fun _ => rfl) HI.out.2.1 (fun _ _ => trivial)
  · rw [placeV, if_pos ho] at hv
    obtain ⟨rfl, rfl⟩ : [] = r1 ∧ rowE l0 = r2 := by simpa using hv
    obtain ⟨E, hE⟩ : ∃ E, E = rowE l0 := ⟨_, rfl⟩
    rw [← hE] at HC ho ⊢
    have hb : (E != 0) = true := bne_iff_ne.2 ho
    clear hE hv hr0 ho
    go_enter Try.func31, Try.ntmps31
    go_wp2_with fail
    go_step3
    go_wp2_with fail
    refine HC.out.mono ?_
    rintro e w1 ⟨rfl, hw⟩
    have HW := Lib.hid hw
    clear hw
    go_wp2_with fail
    rw [Exit.noGoto_ret]
    go_ret2
    exact ⟨_, rfl, Kd.R_nil _ _ _ _ _, HW.out⟩
end Go.Proofs.Ytmfonbonfhngnaa.Hand

/- Fewest comes to one pocket more than the last one that is used. -/
namespace Go.Proofs.Ytmfonbonfhngnaa.Hand
set_option linter.unusedVariables false
set_option linter.unusedSimpArgs false
open Go.RowKit Go.Maps Go.Proofs.YtmfonbonfhngnaaW.PrintWords Go.Proofs.YtmfonbonfhngnaaW.PrintLast Go.Proofs.YtmfonbonfhngnaaW.PrintMore Go.Proofs.Ytmfonbonfhngnaa.PrA

/-- the greatest of the first numbers -/
def maxTo (l : List Int) : Nat → Int
  | 0 => rd l 0
  | k + 1 => if maxTo l k < rd l ((k + 1 : Nat) : Int) then rd l ((k + 1 : Nat) : Int) else maxTo l k

set_option maxHeartbeats 4000000 in
theorem max_any (A : Option Addr) (c : Nat) (l : List Int) (w : World) (hr : Kd.C (Kd.int .i64) w A l.length l) (hc : l.length ≤ c) (hl : 0 < l.length) :
    Calls Try.prog 53 #[.slice A l.length c] w fun e w' => e = .returned (.int .i64 (maxTo l (l.length - 1))) ∧ w = w' := by
  have hm : l.length ≤ 9223372036854775807 := hr.2.1
  have HR := Lib.hid hr
  have n1 : ¬ (l.length : Int) < 1 := by omega
  have n0 : (0 : Int) < (l.length : Int) := by omega
  obtain ⟨ad, rfl, hx⟩ := Kd.at_int hr 0 (Int.le_refl _) (by omega)
  rw [show ((0 : Int)).toNat = 0 from rfl] at hx
  have ha0 : ad.add 0 = ad := rfl
  rw [ha0] at hx
  obtain ⟨x0, hx0⟩ : ∃ x0, x0 = rd l 0 := ⟨_, rfl⟩
  rw [← hx0] at hx
  have HX0 := Lib.hid hx0
  clear hr hx0 ha0
  go_enter Try.func53, Try.ntmps53
  go_wp2_with fail
  go_loop [3, 4] (fun s i => ∃ k : Nat, 1 ≤ k ∧ k ≤ l.length ∧ i = .int .i64 k ∧ s = .int .i64 (maxTo l (k - 1))) (fun _ i => l.length - (intOf i).toNat)
  case atStart => exact ⟨1, Nat.le_refl _, hl, rfl, by rw [HX0.out]; rfl⟩
  case round =>
    obtain ⟨k, hk1, hk, rfl, rfl⟩ := hrel
    by_cases hlt : k < l.length
    · have hlti : (k : Int) < (l.length : Int) := by omega
      have k0 : (0 : Int) ≤ (k : Int) := by omega
      obtain ⟨_, e', hy⟩ := Kd.at_int HR.out (k : Int) k0 hlti
      cases e'
      rw [Int.toNat_natCast] at hy
      have hs : maxTo l k = if maxTo l (k - 1) < rd l (k : Int) then rd l (k : Int) else maxTo l (k - 1) := by
        obtain ⟨q, rfl⟩ : ∃ q, k = q + 1 := ⟨k - 1, by omega⟩
        rfl
      obtain ⟨y, hye⟩ : ∃ y, y = rd l (k : Int) := ⟨_, rfl⟩
      obtain ⟨m, hme⟩ : ∃ m, m = maxTo l (k - 1) := ⟨_, rfl⟩
      rw [← hye, ← hme] at hs
      rw [← hye] at hy
      rw [← hme]
      have HS := Lib.hid hs
      clear hs hye hme
      go_wp2_with fail
      refine ⟨⟨k + 1, by omega, by omega, by go_num, ?_⟩, by simp [intOf]; omega⟩
      rw [Nat.add_sub_cancel, HS.out]
    · have hnl : ¬ (k : Int) < (l.length : Int) := by omega
      have hke : l.length - 1 = k - 1 := by omega
      have HK := Lib.hid hke
      clear hke
      go_wp2_with fail
      go_ret
      exact ⟨by rw [HK.out]; rfl, rfl⟩

def fewV (l : List Int) : Int × Int := if rowE l ≠ 0 then (0, rowE l) else if (plN l [] []).length = 0 then (0, 0) else (wrap64 (maxTo (plN l [] []) ((plN l [] []).length - 1) + 1), 0)
def gap_Fewest.f (l0 : List Int) : Option (Int × Int) := some (fewV l0)
set_option maxHeartbeats 4000000 in
theorem gap_Fewest.calls (A0 : Option Addr) (c0 : Nat) (l0 : List Int) (r1 r2 : Int) (w : World) (hr0 : Kd.C (Kd.int .i64) w A0 l0.length l0) (hc0 : l0.length ≤ c0) (h : gap_Fewest.f l0 = some (r1, r2)) :
    Calls Try.prog 25 #[.slice A0 l0.length c0] w fun e w' => e = .returned (.tuple #[.int .i64 r1, .int .i64 r2]) ∧ Below w.heap.size w w' := by
  have hv : fewV l0 = (r1, r2) := Option.some.inj h
  clear h
  by_cases ho : rowE l0 = 0
  · have HP := Lib.hid (gap_Place.calls A0 c0 l0 (plN l0 [] []) 0 w hr0 hc0 (by rw [gap_Place.f, placeV, if_neg (by omega)]))
    obtain ⟨P, hP⟩ : ∃ P, P = plN l0 [] [] := ⟨_, rfl⟩
    rw [← hP] at HP
    by_cases hz : P.length = 0
    · obtain ⟨rfl, rfl⟩ : 0 = r1 ∧ 0 = r2 := by
        rw [fewV, if_neg (by omega), ← hP, if_pos hz] at hv
        simpa using hv
      have hz' : ((P.length : Int) == 0) = true := by rw [hz]; rfl
      clear hv hP hr0 ho
      go_enter Try.func25, Try.ntmps25
      go_wp2_with fail
      refine HP.out.mono ?_
      rintro e w1 ⟨v, rfl, hR, hb⟩
      obtain ⟨Ap, cp, rfl, hpc, hC⟩ := Kd.R_reads hR
      have HB := Lib.hid hb
      clear hb hR hC
      go_wp2_with fail
      go_ret2
      exact ⟨rfl, HB.out⟩
    · have hr1 : wrap64 (maxTo P (P.length - 1) + 1) = r1 ∧ 0 = r2 := by
        rw [fewV, if_neg (by omega), ← hP, if_neg hz] at hv
        simpa using hv
      obtain ⟨hr1, rfl⟩ := hr1
      have HR1 := Lib.hid hr1
      have hz' : ((P.length : Int) == 0) = false := beq_eq_false_iff_ne.2 (by omega)
      have hp0 : 0 < P.length := by omega
      clear hv hP hr0 ho hr1
      go_enter Try.func25, Try.ntmps25
      go_wp2_with fail
      refine HP.out.mono ?_
      rintro e w1 ⟨v, rfl, hR, hb⟩
      obtain ⟨Ap, cp, rfl, hpc, hC⟩ := Kd.R_reads hR
      have HB := Lib.hid hb
      have HM := Lib.hid (max_any Ap cp P w1 hC hpc hp0)
      clear hb hR hC
      go_wp2_with (go_at_call 53; refine HM.out.mono ?_; rintro e w' ⟨rfl, rfl⟩)
      go_ret2
      exact ⟨by rw [← HR1.out]; first | rfl | (simp; done), HB.out⟩
  · have HP := Lib.hid (gap_Place.calls A0 c0 l0 [] (rowE l0) w hr0 hc0 (by rw [gap_Place.f, placeV, if_pos ho]))
    obtain ⟨rfl, rfl⟩ : 0 = r1 ∧ rowE l0 = r2 := by
      rw [fewV, if_pos ho] at hv
      simpa using hv
    obtain ⟨E, hE⟩ : ∃ E, E = rowE l0 := ⟨_, rfl⟩
    rw [← hE] at HP ho ⊢
    have hb : (E != 0) = true := bne_iff_ne.2 ho
    clear hE hv hr0 ho
    go_enter Try.func25, Try.ntmps25
    go_wp2_with fail
    refine HP.out.mono ?_
    rintro e w1 ⟨v, rfl, hR, hb⟩
    obtain ⟨Ap, cp, rfl, hpc, hC⟩ := Kd.R_reads hR
    have HB := Lib.hid hb
    clear hb hR hC
    go_wp2_with fail
    go_ret2
    exact ⟨rfl, HB.out⟩
end Go.Proofs.Ytmfonbonfhngnaa.Hand

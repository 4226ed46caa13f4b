/- Draw comes to a plain list. -/
import Derived.Test.YtmgdidhhgdpobaaHNumber
import Derived.ArgAppend
import Derived.Maps.AppendAt
import Derived.Laws.CopyOwn
import Derived.WalkMore
import Derived.ScopeJumps
namespace Go.Proofs.Ytmgdidhhgdpobaa.Hand
open Go.RowKit Go.Maps Go.Proofs.YtmgdidhhgdpobaaW.PrintWords Go.Proofs.YtmgdidhhgdpobaaW.PrintLast Go.Proofs.YtmgdidhhgdpobaaW.PrintMore Go.Proofs.Ytmgdidhhgdpobaa.PrA

/-- the sample with a number: so many logs are left, the first of them, so many are left to draw -/
def drawFrom : Nat → Int → Nat → Int → List Int
  | _, _, 0, _ => []
  | 0, _, _ + 1, _ => []
  | n + 1, log, left + 1, num => if (binom n left : Int) ≤ num then drawFrom n (log + 1) (left + 1) (num - binom n left) else log :: drawFrom n (log + 1) left num
def check_Draw.f (a0 a1 a2 : Int) : Option (List Int × Int) :=
  some (if outB 1 50 a0 || outB 0 a0 a1 then ([], 3) else if a2 < 0 ∨ (binom a0.toNat a1.toNat : Int) ≤ a2 then ([], 5) else (drawFrom a0.toNat 0 a1.toNat a2, 0))

theorem drawFrom_none (n : Nat) (log num : Int) : drawFrom n log 0 num = [] := by cases n <;> rfl
theorem drawFrom_skip {n left : Nat} {log num : Int} (hl : 0 < left) (h : (binom n (left - 1) : Int) ≤ num) : drawFrom (n + 1) log left num = drawFrom n (log + 1) left (num - binom n (left - 1)) := by
  obtain ⟨l, rfl⟩ : ∃ l, left = l + 1 := ⟨left - 1, by omega⟩
  rw [drawFrom, Nat.add_sub_cancel] at *
  rw [if_pos h]
theorem drawFrom_take {n left : Nat} {log num : Int} (hl : 0 < left) (h : num < (binom n (left - 1) : Int)) : drawFrom (n + 1) log left num = log :: drawFrom n (log + 1) (left - 1) num := by
  obtain ⟨l, rfl⟩ : ∃ l, left = l + 1 := ⟨left - 1, by omega⟩
  rw [drawFrom, Nat.add_sub_cancel] at *
  rw [if_neg (by omega)]
theorem run_cut3 {P : Program} (w : World) (t e : TypeId) (ht : P.underlying t = some (.slice e)) {i : TypeInfo} (hi : P.info? e = some i) (ao : Option Addr) (n cap : Nat) (h : n ≤ cap) :
    (Instr.slice t (.slice ao n cap) none (some (.int .i64 (n : Int))) (some (.int .i64 (n : Int)))).run P w = .ok (.slice ao n n) w := by
  have hel : P.elem t = e := by simp [Program.elem, ht]
  have hu : P.underlying t = some (.slice (P.elem t)) := by rw [hel]; exact ht
  rw [run_slice_hm w t ao n cap hu .i64 .i64 n n (by omega) (by omega) (by omega), hel]
  have : ∀ a : Addr, a.add 0 = a := fun a => rfl
  simp [sizeOf, typeInfo, hi, sliced, Result.andThen, this]
theorem own_out {w : World} {base n : Nat} {e : TypeId} {k : IntKind} {v : Value} {xs : List Int} (h : w.ownsRow base e 1 v n (nums k xs)) :
    ∃ A c, v = .slice A xs.length c ∧ xs.length ≤ c ∧ (A = none → xs.length = 0 ∧ c = 0) ∧ ReadsInt w k A xs.length xs := by
  have hl : xs.length = n := by have := h.1; simp [nums] at this; exact this
  obtain ⟨A, c, rfl, hr⟩ := own_reads h
  rw [hl]
  refine ⟨A, c, rfl, ?_, ?_, hr⟩
  · rcases h.2 with ⟨hv, h0⟩ | ⟨g, cap, cur, hv, _, _, hc, _⟩
    · omega
    · cases hv; exact hc
  · rintro rfl
    rcases h.2 with ⟨hv, h0⟩ | ⟨g, cap, cur, hv, _⟩
    · cases hv; exact ⟨rfl, rfl⟩
    · cases hv
theorem reads_cells {w : World} {k : IntKind} {ao : Option Addr} {xs : List Int} (h : ReadsInt w k ao xs.length xs) (b : Addr) (hb : ao = some b) : ∀ j u, (nums k xs)[j]? = some u → w.cell? (b.add j) = some u := by
  intro j u hu
  have hj : j < xs.length := by
    have := (List.getElem?_eq_some_iff.1 hu).1
    simpa [nums] using this
  obtain ⟨ad, e, hc⟩ := h.2.2 (by omega)
  rw [hb] at e
  cases e
  rw [hc j hj]
  simpa [nums, hj, List.getD_eq_getElem?_getD] using hu
theorem own_block {w : World} {base e size g n cap : Nat} {xs : List Value} (h : w.ownsRow base e size (.slice (some ⟨g, 0, none⟩) n cap) n xs) : ∃ cur : Array Value, w.heap[g]? = some (.cells cur.toList.toArray e (0, 0)) ∧ cur.size = cap * size := by
  rcases h.2 with ⟨hv, _⟩ | ⟨g', cap', cur, hv, _, hh, _, _, hc, _⟩
  · cases hv
  · cases hv; exact ⟨cur, by simpa using hh, hc⟩
theorem below_of_grown {w w1 : World} (h : w.grownBy w1 none) : Below w.heap.size w w1 := (Below.refl _ _).grown h (Nat.le_refl _) (fun j e => by cases e)
theorem reads_some {w : World} {k : IntKind} {ao : Option Addr} {xs : List Int} (h : ReadsInt w k ao xs.length xs) (hp : 0 < xs.length) : ∃ ad, ao = some ad ∧ ∀ j u, (nums k xs)[j]? = some u → w.cell? (ad.add j) = some u := by
  obtain ⟨ad, e, _⟩ := h.2.2 hp
  exact ⟨ad, e, reads_cells h ad e⟩
theorem nums_min (k : IntKind) (xs : List Int) : (nums k xs).length = Nat.min xs.length xs.length := by rw [show (nums k xs).length = xs.length by simp [nums]]; exact (Nat.min_self _).symm
theorem nums_one (k : IntKind) (xs : List Int) : ∀ v ∈ nums k xs, v.oneCell' = true := by simp [nums, Value.oneCell']
theorem own_copied {w : World} {base e g : Nat} {k : IntKind} {cur : List Value} {xs : List Int} (h : w.heap[g]? = some (.cells (splice cur 0 (nums k xs)).toArray e (0, 0))) (hc : cur.length = xs.length) (hb : base ≤ g) (hx : xs.length ≤ maxLen) :
    Kd.R (Kd.int k) e w base (fun _ => True) (.slice (some ⟨g, 0, none⟩) xs.length xs.length) xs := by
  have hs : splice cur 0 (nums k xs) = nums k xs := by
    simp only [splice, List.take_zero, List.nil_append, Nat.zero_add]
    rw [List.drop_eq_nil_of_le (by simp [nums]; omega), List.append_nil]
  rw [hs] at h
  refine Kd.R_of_own (enc := Value.int k) (h1 := fun _ => rfl) ?_ (fun _ _ => trivial)
  refine ⟨by simp [encs], .inr ⟨g, xs.length, (nums k xs).toArray, rfl, hb, h, Nat.le_refl _, hx, by simp [nums], ?_⟩⟩
  rw [List.take_of_length_le (by simp [nums])]
  rfl
theorem infoInt : (Try.prog.info? 3).map (fun i => (i.zero, i.size, i.bytes)) = some (some (.int .i64 0), 1, 8) := by kernel_rfl

set_option maxHeartbeats 4000000 in
set_option maxRecDepth 100000 in
theorem draw_good (a0 a1 a2 : Int) (p0 : 1 ≤ a0) (p1 : a0 ≤ 50) (q0 : 0 ≤ a1) (q1 : a1 ≤ a0) (n0 : 0 ≤ a2) (n1 : a2 < (binom a0.toNat a1.toNat : Int)) (w : World) :
    Calls Try.prog 26 #[.int .i64 a0, .int .i64 a1, .int .i64 a2] w fun e w' => ∃ v0_ : Value, e = .returned (.tuple #[v0_, .int .i64 0]) ∧ Kd.R (Kd.int .i64) 3 w' w.heap.size (fun _ => True) v0_ (drawFrom a0.toNat 0 a1.toNat a2) ∧ Below w.heap.size w w' := by
  obtain ⟨s, rfl⟩ : ∃ s : Nat, a1 = (s : Int) := Int.eq_ofNat_of_zero_le q0
  rw [Int.toNat_natCast] at n1 ⊢
  have o1 : outB 1 50 a0 = false := by simp [outB]; omega
  have o2 : outB 0 a0 s = false := by simp [outB]; omega
  have hc1 := fun W => within1 1 50 a0 W
  have hc2 := fun W => within1 0 a0 s W
  rw [o1] at hc1
  rw [o2] at hc2
  have hbz := binom_le50 a0.toNat s (by omega)
  obtain ⟨z, hz⟩ : ∃ z : Nat, z = binom a0.toNat s := ⟨_, rfl⟩
  rw [← hz] at hbz n1
  have hix : ∀ w', (Instr.index 82 (.agg (cellsOf (rowF a0.toNat))) (.int .i64 (s : Int))).run Try.prog w' = .ok (.int .i64 z) w' := fun w' => by
    rw [hz]; exact run_index_agg w' row_under row_key row_cells (by omega) (cellsOf_get _ _ (by omega))
  have HC1 := Lib.hid hc1
  have HC2 := Lib.hid hc2
  have HZ := Lib.hid hz
  clear hc1 hc2 o1 o2 hz
  have hn0 : decide (a2 < 0) = false := by simp; omega
  have hn1 : decide ((z : Int) ≤ a2) = false := by simp; omega
  go_enter Try.func26, Try.ntmps26
  go_wp2
  go_step3
  go_wp2_with fail
  refine (HC1.out _).mono ?_
  rintro e w1 ⟨rfl, hb1⟩
  have HB1 := Lib.hid hb1
  clear hb1
  go_wp2_with fail
  refine (HC2.out _).mono ?_
  rintro e w2 ⟨rfl, hb2⟩
  have HB2 := Lib.hid (HB1.out.trans (hb2.mono HB1.out.size))
  clear hb2
  go_wp2_with fail
  refine (choices_int a0 (by omega) p1 _).mono ?_
  rintro e w3 ⟨rfl, hb3⟩
  have HB3 := Lib.hid (HB2.out.trans (hb3.mono HB2.out.size))
  clear hb3
  go_wp2
  go_step3
  go_wp2
  go_loopw [2, 8, 9, 10] (fun num v lg lf wr => ∃ (n : Nat) (log : Int) (left : Nat) (nm : Int) (ao : Option Addr) (cap : Nat) (pre : List Int), num = .int .i64 nm ∧ v = .slice ao pre.length cap ∧ lg = .int .i64 log ∧ lf = .int .i64 (left : Int) ∧
      0 ≤ log ∧ 0 ≤ nm ∧ nm ≤ 1125899906842624 ∧ pre.length ≤ cap ∧ pre.length ≤ 50 ∧ Hid (log + n = a0 ∧ left ≤ n ∧ pre.length + left = s ∧ nm < binom n left ∧ (ao = none → pre.length = 0 ∧ cap = 0) ∧ ReadsInt wr .i64 ao pre.length pre ∧ pre ++ drawFrom n log left nm = drawFrom a0.toNat 0 s a2 ∧ Below w.heap.size w wr)) (fun _ _ lg _ _ => 60 - (intOf lg).toNat)
  case atStart => exact ⟨a0.toNat, 0, s, a2, none, 0, [], rfl, rfl, rfl, rfl, by omega, n0, by omega, Nat.le_refl _, by simp, by omega, by omega, by simp, by rw [← HZ.out]; exact n1, fun _ => ⟨rfl, rfl⟩, ReadsInt.nil _ _, rfl, HB3.out⟩
  case round =>
    obtain ⟨n, log, left, nm, ao, cap, pre, rfl, rfl, rfl, rfl, hl0, hm0, hm1, hpc, hp50, HI⟩ := hrel
    have hI := HI.out
    by_cases hz0 : left = 0
    · have hl : ¬ (0 : Int) < (left : Int) := by omega
      have hl2 : (left : Int) ≤ 0 := by omega
      have HZ0 := Lib.hid hz0
      clear hI hz0
      obtain ⟨i0, hi, hz0, hz1, hz2⟩ := info_parts infoInt
      have hle := HI.out.2.2.2.2.2.2.2.size
      have hsz1 : (Try.prog.info? 3).map (·.size) = some 1 := by rw [hi]; exact congrArg some hz1
      have HSZ1 := Lib.hid hsz1
      clear hsz1
      go_wp2_with (first
        | (at_make; refine wpList_make_full _ rfl _ _ 32 rfl w.heap.size 3 i0 (.int .i64 0) 1 Try.underlying32 hi hz0 hz1 .i64 .i64 _ _ pre.length rfl rfl rfl rfl (by rw [hz2]; omega) (by unfold maxLen; omega) hle ?_; intro w6 hown6 hgrow6; obtain ⟨cur, hcur, hcl⟩ := own_block hown6; have HG6 := Lib.hid hgrow6; have HC6 := Lib.hid hcur; have HRD := Lib.hid (HI.out.2.2.2.2.2.1.below (below_of_grown hgrow6)); have HB6 := Lib.hid (HI.out.2.2.2.2.2.2.2.grown hgrow6 hle (fun j e => by cases e)); clear hown6 hgrow6 hcur)
        | ((with_reducible refine wpList_copy_splice (o := ⟨some 71, _, _, _, _, _⟩) ?_ (.tmp 69) (.tmp 70) 32 32 ?_ 3 Try.underlying32 HSZ1.out (some ⟨wr.heap.size, 0, none⟩) ao pre.length pre.length pre.length cap ?_ ?_ wr.heap.size 0 cur.toList 3 ?_ (nums .i64 pre) ?_ ?_ ?_ ?_ w.heap.size w HB6.out hle ?_); rfl; rfl; (repeat rfl); (exact HC6.out); (exact nums_min _ _); (exact fun hp => ⟨rfl, reads_some HRD.out (by simpa [nums] using hp)⟩); (simp [nums]; omega); (exact nums_one _ _); intro w7 hw7 hb7; have H7 := Lib.hid (And.intro hw7 hb7); clear hw7 hb7))
      have hfin : drawFrom a0.toNat 0 s a2 = pre := by
        have := HI.out.2.2.2.2.2.2.1
        rw [HZ0.out, drawFrom_none, List.append_nil] at this
        exact this.symm
      have HFIN := Lib.hid hfin
      clear hfin
      go_ret2
      exact ⟨_, rfl, by rw [HFIN.out]; exact own_copied H7.out.1 (by rw [Array.length_toList, hcl, Nat.mul_one]) hle (by unfold maxLen; omega), H7.out.2⟩
    · obtain ⟨n, rfl⟩ : ∃ n', n = n' + 1 := ⟨n - 1, by omega⟩
      have hl : (0 : Int) < (left : Int) := by omega
      have hlog : log ≤ 49 := by omega
      have hl50 : left ≤ 50 := by omega
      have hbx := binom_le50 n (left - 1) (by omega)
      obtain ⟨x, hx⟩ : ∃ x : Nat, x = binom n (left - 1) := ⟨_, rfl⟩
      rw [← hx] at hbx
      have hlen : log + (n : Int) + 1 = a0 := by omega
      have hpas : binom (n + 1) left = x + binom n left := by
        obtain ⟨l, rfl⟩ : ∃ l, left = l + 1 := ⟨left - 1, by omega⟩
        rw [hx, binom_succ, Nat.add_sub_cancel]
      have hch := choices_int (a0 - log - 1) (by omega) (by omega)
      rw [show (a0 - log - 1).toNat = n by omega] at hch
      have hix2 : ∀ w', (Instr.index 82 (.agg (cellsOf (rowF n))) (.int .i64 ((left : Int) - 1))).run Try.prog w' = .ok (.int .i64 x) w' := fun w' => by
        rw [hx, show ((left : Int) - 1) = ((left - 1 : Nat) : Int) by omega]; exact run_index_agg w' row_under row_key row_cells (by omega) (cellsOf_get _ _ (by omega))
      have HCH := Lib.hid hch
      have HX := Lib.hid (And.intro hx hpas)
      have HLEN := Lib.hid hlen
      have HZ0 := Lib.hid hz0
      clear hch hx hI hix hpas hz0
      by_cases hsk : (x : Int) ≤ nm
      · have hdr := drawFrom_skip (n := n) (left := left) (log := log) (num := nm) (by omega) (by rw [← HX.out.1]; exact hsk)
        rw [← HX.out.1] at hdr
        have HDR := Lib.hid hdr
        clear hdr hlen
        go_wp2_with fail
        refine (HCH.out _).mono ?_
        rintro e w4 ⟨rfl, hb4⟩
        have HB4 := Lib.hid hb4
        clear hb4
        go_wp2
        go_roundw
        case rel => exact ⟨n, log + 1, left, nm - x, ao, cap, pre, rfl, rfl, rfl, rfl, by omega, by omega, by omega, hpc, hp50, Lib.hid (by
          obtain ⟨i1, i2, i3, i4, i5, i6, i7, i8⟩ := HI.out
          obtain ⟨x1, x2⟩ := HX.out
          rw [x2] at i4
          refine ⟨by have := HLEN.out; omega, ?_, i3, by omega, i5, i6.below (HB4.out.mono (Nat.le_refl _)), by rw [← HDR.out]; exact i7, i8.trans (HB4.out.mono i8.size)⟩
          apply Decidable.byContradiction
          intro hc
          rw [binom_gt n left (by omega)] at i4
          omega)⟩
        case measure => simp [intOf]; omega
      · have hdr := drawFrom_take (n := n) (left := left) (log := log) (num := nm) (by omega) (by rw [← HX.out.1]; omega)
        have HDR := Lib.hid hdr
        clear hdr hlen
        have hsk' : decide ((x : Int) ≤ nm) = false := by simp; omega
        obtain ⟨i0, hi, hz0, hz1, hz2⟩ := info_parts infoInt
        go_wp2_with fail
        refine (HCH.out _).mono ?_
        rintro e w4 ⟨rfl, hb4⟩
        have HB4 := Lib.hid hb4
        clear hb4
        have hcut := fun W => run_cut3 (P := Try.prog) W 32 3 Try.underlying32 hi ao pre.length cap hpc
        have hread := HI.out.2.2.2.2.2.1.below (HB4.out.mono (Nat.le_refl _))
        have hread1 := hread.allocS (.cells #[.int .i64 log] 3)
        have HRD := Lib.hid hread1
        clear hread hread1
        go_wp2_with (first | (at_builtin; refine wpList_append_grows _ rfl _ _ 32 rfl 3 i0 (.int .i64 0) 1 8 Try.underlying32 hi hz0 hz1 hz2 rfl (by decide) ao pre.length pre.length (nums .i64 pre) rfl (fun e => ⟨(HI.out.2.2.2.2.1 e).1, (HI.out.2.2.2.2.1 e).1⟩) (by simp [nums]) (fun b e => reads_cells HRD.out b e) ⟨w4.heap.size, 0, none⟩ 1 1 [.int .i64 log] rfl rfl (cell_one_new _ _ _) (by simp [Value.oneCell']) (by omega) (by unfold maxLen; omega) (by omega) ?_; intro v5 w5 hown5 hgrow5; have H5 := Lib.hid (And.intro hown5 hgrow5); clear hown5 hgrow5))
        have hown := H5.out.1
        rw [show nums .i64 pre ++ [Value.int .i64 log] = nums .i64 (pre ++ [log]) by simp [nums]] at hown
        obtain ⟨A, c, rfl, hlc, hnc, hrc⟩ := own_out hown
        have hl1 : (pre ++ [log]).length = pre.length + 1 := by simp
        go_roundw
        case rel => exact ⟨n, log + 1, left - 1, nm, A, c, pre ++ [log], rfl, rfl, rfl, congrArg (Value.int .i64) (by omega), by omega, by omega, by omega, hlc, by have := HI.out.2.2.1; omega, Lib.hid (by
          obtain ⟨i1, i2, i3, i4, i5, i6, i7, i8⟩ := HI.out
          obtain ⟨x1, x2⟩ := HX.out
          refine ⟨by have := HLEN.out; omega, by omega, by omega, by omega, hnc, hrc, ?_, ?_⟩
          · rw [← i7, HDR.out]; simp
          · exact ((i8.trans (HB4.out.mono i8.size)).alloc (by have := i8.size; have := HB4.out.size; omega) _).grown H5.out.2 (by have := i8.size; have := HB4.out.size; simp; omega) (fun j e => by cases e))⟩
        case measure => simp [intOf]; omega

set_option maxHeartbeats 4000000 in
set_option maxRecDepth 100000 in
theorem draw_bad (a0 a1 a2 : Int) (hb : (outB 1 50 a0 || outB 0 a0 a1) = true) (w : World) :
    Calls Try.prog 26 #[.int .i64 a0, .int .i64 a1, .int .i64 a2] w fun e w' => e = .returned (.tuple #[.slice none 0 0, .int .i64 3]) ∧ Below w.heap.size w w' := by
  have hc1 := fun W => within1 1 50 a0 W
  have hc2 := fun W => within1 0 a0 a1 W
  cases h1 : outB 1 50 a0
  · have h2 : outB 0 a0 a1 = true := by simpa [h1] using hb
    rw [h1] at hc1
    rw [h2] at hc2
    have HC1 := Lib.hid hc1
    have HC2 := Lib.hid hc2
    clear hc1 hc2 h1 h2 hb
    go_enter Try.func26, Try.ntmps26
    go_wp2
    go_step3
    go_wp2_with fail
    refine (HC1.out _).mono ?_
    rintro e w1 ⟨rfl, hb1⟩
    have HB1 := Lib.hid hb1
    clear hb1
    go_wp2_with fail
    refine (HC2.out _).mono ?_
    rintro e w2 ⟨rfl, hb2⟩
    have HB2 := Lib.hid (HB1.out.trans (hb2.mono HB1.out.size))
    clear hb2
    go_wp2
    rw [Exit.noGoto_ret]
    go_ret2
    exact ⟨rfl, HB2.out⟩
  · rw [h1] at hc1
    have HC1 := Lib.hid hc1
    clear hc1 hc2 h1 hb
    go_enter Try.func26, Try.ntmps26
    go_wp2
    go_step3
    go_wp2_with fail
    refine (HC1.out _).mono ?_
    rintro e w1 ⟨rfl, hb1⟩
    have HB1 := Lib.hid hb1
    clear hb1
    go_wp2
    rw [Exit.noGoto_ret]
    go_ret2
    exact ⟨rfl, HB1.out⟩

set_option maxHeartbeats 4000000 in
set_option maxRecDepth 100000 in
theorem draw_none (a0 a1 a2 : Int) (hb : (outB 1 50 a0 || outB 0 a0 a1) = false) (hn : a2 < 0 ∨ (binom a0.toNat a1.toNat : Int) ≤ a2) (w : World) :
    Calls Try.prog 26 #[.int .i64 a0, .int .i64 a1, .int .i64 a2] w fun e w' => e = .returned (.tuple #[.slice none 0 0, .int .i64 5]) ∧ Below w.heap.size w w' := by
  obtain ⟨h1, h2⟩ := Bool.or_eq_false_iff.1 hb
  obtain ⟨p0, p1⟩ := out_in h1
  obtain ⟨q0, q1⟩ := out_in h2
  have hc1 := fun W => within1 1 50 a0 W
  have hc2 := fun W => within1 0 a0 a1 W
  rw [h1] at hc1
  rw [h2] at hc2
  have HC1 := Lib.hid hc1
  have HC2 := Lib.hid hc2
  obtain ⟨z, hz⟩ : ∃ z : Nat, z = binom a0.toNat a1.toNat := ⟨_, rfl⟩
  rw [← hz] at hn
  have hix : ∀ w', (Instr.index 82 (.agg (cellsOf (rowF a0.toNat))) (.int .i64 a1)).run Try.prog w' = .ok (.int .i64 z) w' := fun w' => by
    obtain ⟨s, rfl⟩ := Int.eq_ofNat_of_zero_le q0
    rw [hz]; exact run_index_agg w' row_under row_key row_cells (by omega) (cellsOf_get _ _ (by omega))
  clear hc1 hc2 h1 h2 hb hz
  by_cases h0 : a2 < 0
  · have hd : decide (a2 < 0) = true := decide_eq_true h0
    go_enter Try.func26, Try.ntmps26
    go_wp2
    go_step3
    go_wp2_with fail
    refine (HC1.out _).mono ?_
    rintro e w1 ⟨rfl, hb1⟩
    have HB1 := Lib.hid hb1
    clear hb1
    go_wp2_with fail
    refine (HC2.out _).mono ?_
    rintro e w2 ⟨rfl, hb2⟩
    have HB2 := Lib.hid (HB1.out.trans (hb2.mono HB1.out.size))
    clear hb2
    go_wp2
    rw [Exit.noGoto_ret]
    go_ret2
    exact ⟨rfl, HB2.out⟩
  · have hd : decide (a2 < 0) = false := decide_eq_false h0
    have hz1 : (z : Int) ≤ a2 := by omega
    have hd2 : decide ((z : Int) ≤ a2) = true := decide_eq_true hz1
    go_enter Try.func26, Try.ntmps26
    go_wp2
    go_step3
    go_wp2_with fail
    refine (HC1.out _).mono ?_
    rintro e w1 ⟨rfl, hb1⟩
    have HB1 := Lib.hid hb1
    clear hb1
    go_wp2_with fail
    refine (HC2.out _).mono ?_
    rintro e w2 ⟨rfl, hb2⟩
    have HB2 := Lib.hid (HB1.out.trans (hb2.mono HB1.out.size))
    clear hb2
    go_wp2_with fail
    refine (choices_int a0 (by omega) p1 _).mono ?_
    rintro e w3 ⟨rfl, hb3⟩
    have HB3 := Lib.hid (HB2.out.trans (hb3.mono HB2.out.size))
    clear hb3
    go_wp2
    rw [Exit.noGoto_ret]
    go_ret2
    exact ⟨rfl, HB3.out⟩

theorem check_Draw.calls (a0 a1 a2 : Int) (r1 : List Int) (r2 : Int) (w : World) (h : check_Draw.f a0 a1 a2 = some (r1, r2)) :
    Calls Try.prog 26 #[.int .i64 a0, .int .i64 a1, .int .i64 a2] w fun e w' => ∃ v0_ : Value, e = .returned (.tuple #[v0_, .int .i64 r2]) ∧ Kd.R (Kd.int .i64) 3 w' w.heap.size (fun _ => True) v0_ r1 ∧ Below w.heap.size w w' := by
  have h := Option.some.inj h
  cases hb : outB 1 50 a0 || outB 0 a0 a1
  · rw [hb, if_neg (by simp)] at h
    by_cases hn : a2 < 0 ∨ (binom a0.toNat a1.toNat : Int) ≤ a2
    · rw [if_pos hn] at h
      obtain ⟨rfl, rfl⟩ := Prod.mk.inj h
      exact (draw_none a0 a1 a2 hb hn w).mono fun e w' ⟨he, hw⟩ => ⟨_, he, Kd.R_nil _ _ _ _ _, hw⟩
    · rw [if_neg hn] at h
      obtain ⟨rfl, rfl⟩ := Prod.mk.inj h
      obtain ⟨h1, h2⟩ := Bool.or_eq_false_iff.1 hb
      obtain ⟨p0, p1⟩ := out_in h1
      obtain ⟨q0, q1⟩ := out_in h2
      exact draw_good a0 a1 a2 p0 p1 q0 q1 (by omega) (by omega) w
  · rw [hb, if_pos rfl] at h
    obtain ⟨rfl, rfl⟩ := Prod.mk.inj h
    exact (draw_bad a0 a1 a2 hb w).mono fun e w' ⟨he, hw⟩ => ⟨_, he, Kd.R_nil _ _ _ _ _, hw⟩
end Go.Proofs.Ytmgdidhhgdpobaa.Hand

/- Texts of the session's, joined: what HWorks, HRow names of them, in build order (joined and cut by a program of the session's). -/
import Derived.Test.YtcbhnhoicecnnaaDoorZD2
import Derived.Maps.RangeWalk
import Derived.Sort.CutIn
set_option linter.unusedVariables false
set_option linter.unusedSimpArgs false
namespace Go.Proofs.YtcbhnhoicecnnaaDoor.Hand
set_option linter.unusedVariables false
set_option linter.unusedSimpArgs false
open Go.RowKit Go.Shelf Go.Maps Go.Proofs.YtcbhnhoicecnnaaDoorW.PrintWords Go.Proofs.YtcbhnhoicecnnaaDoorW.PrintLast Go.Proofs.YtcbhnhoicecnnaaDoorW.PrintMore Go.Proofs.YtcbhnhoicecnnaaDoor.PrK
def rmTo (l : List Lk) (j : Nat) : Int := (l.take j).foldl (fun r x => if x.room < r then x.room else r) 1099511627776
theorem rmTo_succ {l : List Lk} {j : Nat} (h : j < l.length) : rmTo l (j + 1) = if l[j].room < rmTo l j then l[j].room else rmTo l j := by
  unfold rmTo; rw [List.take_succ_eq_append_getElem h, List.foldl_append]; rfl
theorem rmTo_end (l : List Lk) : rmTo l l.length = roomOf l := by unfold rmTo roomOf; rw [List.take_length]
theorem rmTo_bd {l : List Lk} (hg : ∀ x ∈ l, Good x) : ∀ j, j ≤ l.length → -2000000 ≤ rmTo l j ∧ rmTo l j ≤ 1099511627776
  | 0, _ => by unfold rmTo; simp
  | j + 1, h => by
    have := rmTo_bd hg j (by omega)
    have h2 := (hg l[j] (List.getElem_mem _)).room
    rw [rmTo_succ (by omega)]
    split <;> omega
def tblTo (l : List Lk) (t : List Int) (j : Nat) : List Int := (l.take j).foldl (chg (roomOf l)) t
theorem tblTo_succ {l : List Lk} {t : List Int} {j : Nat} (h : j < l.length) : tblTo l t (j + 1) = chg (roomOf l) (tblTo l t j) l[j] := by
  unfold tblTo; rw [List.take_succ_eq_append_getElem h, List.foldl_append]; rfl
theorem tblTo_end (l : List Lk) (t : List Int) : tblTo l t l.length = changeL t l := by unfold tblTo changeL; rw [List.take_length]
theorem tblTo_length (l : List Lk) (t : List Int) (j : Nat) : (tblTo l t j).length = t.length := fold_length _ _ _
theorem tat_setQ (t : List Int) (i k : Nat) (v : Int) : tat (t.set i v) k = if i = k ∧ i < t.length then v else tat t k := by
  unfold tat
  rw [List.getD_eq_getElem?_getD, List.getD_eq_getElem?_getD, List.getElem?_set]
  by_cases e : i = k
  · subst e
    by_cases h : i < t.length
    · rw [if_pos rfl, if_pos h, if_pos ⟨rfl, h⟩]; rfl
    · rw [if_pos rfl, if_neg h, if_neg (fun x => h x.2), List.getElem?_eq_none (by omega)]
  · rw [if_neg e, if_neg (fun x => e x.1)]
theorem tblTo_bd {l : List Lk} {t : List Int} (hg : ∀ x ∈ l, Good x) (ht : ∀ i, -1000 ≤ tat t i ∧ tat t i ≤ 1000) : ∀ j, j ≤ l.length → ∀ i, -(1000 + j * 1099511627776 : Int) ≤ tat (tblTo l t j) i ∧ tat (tblTo l t j) i ≤ 1000 + j * 1099511627776
  | 0, _ => fun i => by have := ht i; unfold tblTo; simpa using this
  | j + 1, h => fun i => by
    have h1 := tblTo_bd hg ht j (by omega)
    have hx := hg l[j] (List.getElem_mem _)
    have h2 := rmTo_bd hg l.length (Nat.le_refl _)
    rw [rmTo_end] at h2
    have hs := hx.sgn
    rw [tblTo_succ (by omega), chg]
    have hb := h1 i
    split
    · push_cast; omega
    · rw [tat_setQ]
      split
      · have hb2 := h1 l[j].cell.toNat
        have : -1099511627776 ≤ l[j].sgn * roomOf l ∧ l[j].sgn * roomOf l ≤ 1099511627776 := by
          have : l[j].sgn = -1 ∨ l[j].sgn = 0 ∨ l[j].sgn = 1 := by omega
          rcases this with e | e | e <;> rw [e] <;> omega
        push_cast; omega
      · push_cast; omega
theorem BookAt.setT {W w00 : World} {B Tb : Nat} {s : ShM} {fv : Value} {t : List Int} (h : BookAt W B Tb s fv t) (hr : ShR w00 s) (hw : Below w00.heap.size w00 W) (hT : w00.heap.size ≤ Tb) (i : Nat) (v : Int) : BookAt (W.setCell ⟨Tb, i, none⟩ (.int .i64 v)) B Tb s fv (t.set i v) := by
  refine ⟨?_, ?_, h.ne, hr.below (below_setB hw hT _)⟩
  · have := heap_far h.box (a := ⟨Tb, i, none⟩) (Ne.symm h.ne) (.int .i64 v)
    rw [List.length_set]
    exact this
  · have := heap_setCell_same W Tb i _ _ (.int .i64 v) h.tab
    rw [this]
    congr 2
    simp [nums, List.map_set]
set_option maxHeartbeats 4000000 in
set_option maxRecDepth 100000 in
theorem change_any (B Tb : Nat) (s : ShM) (fv : Value) (t : List Int) (l : List Lk) (v : Value) (base : Nat) (w : World) (h : BookAt w B Tb s fv t) (hown : w.ownsRow base 114 8 v l.length (lksC l)) (hne : 0 < l.length) (hb : B < base ∧ Tb < base) (hl : l.length ≤ 20) (hg : ∀ x ∈ l, Good x)
    (hc : ∀ x ∈ l, x.cell < (t.length : Int)) (ht : ∀ i, -1000 ≤ tat t i ∧ tat t i ≤ 1000) (w00 : World) (hr : ShR w00 s) (hw0 : Below w00.heap.size w00 w) (hwB : w00.heap.size ≤ B ∧ w00.heap.size ≤ Tb) :
    Calls Tryd.prog 80 #[.pointer (some ⟨B, 0, none⟩), v, .int .i64 1099511627776] w fun e w' => e = .returned (.tuple #[]) ∧ BookAt w' B Tb s fv (changeL t l) ∧ HoleL [Tb] w.heap.size w w' := by
  obtain ⟨g, c, cur, rfl, hgb, hgh, hcur⟩ := row_open hown hne
  have hu2 := Tryd.underlying114
  have HB := Lib.hid h
  have HR := Lib.hid (And.intro hr (And.intro hw0 hwB))
  have HG := Lib.hid (And.intro hg hc)
  have HROW := Lib.hid (And.intro hgb (And.intro hgh hcur))
  have HL := Lib.hid (And.intro hl hb)
  have HT := Lib.hid ht
  have l20 : (l.length : Int) ≤ 20 := by omega
  clear h hr hw0 hwB hg hc hgb hgh hcur hl ht hown hne hb
  go_enter Tryd.func80, Tryd.ntmps80
  go_wp2_with fail
  go_loopw [6, 14] (fun v6 i wr => ∃ j : Nat, j ≤ l.length ∧ i = .int .i64 j ∧ v6 = .int .i64 (rmTo l j) ∧ Hid (Below w.heap.size w wr)) (fun _ i _ => 60 - (intOf i).toNat)
  case atStart => exact ⟨0, Nat.zero_le _, rfl, rfl, Lib.hid (Below.refl _ _)⟩
  case round =>
    obtain ⟨j, hj, rfl, rfl, HJ⟩ := hrel
    by_cases hlt : j < l.length
    · have hlti : (j : Int) < (l.length : Int) := by omega
      have j0 : (0 : Int) ≤ (j : Int) := by omega
      obtain ⟨x, hx⟩ : ∃ x, x = l[j] := ⟨_, rfl⟩
      have hcell : ∀ i v, (lkC x)[i]? = some v → wr.cell? ⟨g, j * 8 + i, none⟩ = some v := fun i v hv => by
        rw [cell_of_row wr g _ _ _ _ ((HJ.out.block g (heap_lt HROW.out.2.1)).trans HROW.out.2.1)]
        have hj8 : i < 8 := by have := (List.getElem?_eq_some_iff.1 hv).1; simpa [lkC] using this
        have h1 := lksC_get l j hlt i hj8
        rw [← HROW.out.2.2, List.getElem?_take, if_pos (by omega), ← hx, hv] at h1
        simpa using h1
      have c0 := hcell 0 _ rfl
      have c1 := hcell 1 _ rfl
      have c2 := hcell 2 _ rfl
      have c3 := hcell 3 _ rfl
      have c4 := hcell 4 _ rfl
      have c5 := hcell 5 _ rfl
      have c6 := hcell 6 _ rfl
      have c7 := hcell 7 _ rfl
      rw [Nat.add_zero] at c0
      have HRM : Hid (rmTo l (j + 1) = if x.room < rmTo l j then x.room else rmTo l j) := Lib.hid (by rw [rmTo_succ hlt, ← hx])
      obtain ⟨⟨f1, f2⟩, ⟨t1, t2⟩, wr_, rm, cl, sg⟩ := x
      dsimp only at c0 c1 c2 c3 c4 c5 c6 c7
      obtain ⟨rr, hrr⟩ : ∃ rr, rr = rmTo l j := ⟨_, rfl⟩
      have HRR := Lib.hid hrr
      have HLE : Hid (∀ w', Calls Tryd.prog 78 #[.int .i64 rr, .int .i64 rm] w' fun e w'' => e = .returned (.int .i64 (if rm < rr then rm else rr)) ∧ Below w'.heap.size w' w'') := Lib.hid fun w' => by
        refine (tally_least_int64.calls rr rm (if rm < rr then rm else rr) w' (by unfold tally_least_int64.f; split <;> rfl)).mono ?_
        rintro e w'' ⟨he, hd⟩
        exact ⟨he, hd.below⟩
      rw [← hrr]
      clear hcell hx hrr
      go_wp2_with (go_at_call 78; refine (HLE.out _).mono ?_; rintro e w5 ⟨rfl, h5⟩; have H5 := Lib.hid h5; clear h5)
      go_roundw
      case rel =>
        have hbA : Below wr.heap.size wr (wr.alloc (.cells #[.int .i64 f1, .int .i64 f2, .int .i64 t1, .int .i64 t2, .int .i64 wr_, .int .i64 rm, .int .i64 cl, .int .i64 sg] 114)) := (Below.refl _ _).alloc (Nat.le_refl _) _
        exact ⟨j + 1, by omega, by go_num, by rw [HRM.out, ← HRR.out], Lib.hid ((HJ.out.trans (hbA.mono HJ.out.size)).trans (H5.out.mono (Nat.le_trans HJ.out.size hbA.size)))⟩
      case measure => simp [intOf]; omega
    · have hnl : ¬ (j : Int) < (l.length : Int) := by omega
      have HRE : Hid (rmTo l j = roomOf l) := Lib.hid (by rw [show j = l.length by omega, rmTo_end])
      obtain ⟨ro, hro⟩ : ∃ ro, ro = roomOf l := ⟨_, rfl⟩
      have hrj : rmTo l j = ro := by rw [HRE.out, hro]
      rw [hrj]
      have HRO := Lib.hid hro
      have rb := rmTo_bd HG.out.1 l.length (Nat.le_refl _)
      rw [rmTo_end, ← hro] at rb
      have HRB := Lib.hid rb
      obtain ⟨wo, rfl⟩ : ∃ wo : World, wo = wr := ⟨_, rfl⟩
      clear hro hrj rb HRE
      go_wp2_with fail
      go_loopw [25] (fun i wr => ∃ j : Nat, j ≤ l.length ∧ i = .int .i64 j ∧ Hid (BookAt wr B Tb s fv (tblTo l t j) ∧ HoleL [Tb] w.heap.size w wr)) (fun i _ => 60 - (intOf i).toNat)
      case atStart => exact ⟨0, Nat.zero_le _, rfl, Lib.hid ⟨by unfold tblTo; exact HB.out.below HJ.out, HoleL.of_below HJ.out (Nat.le_refl _)⟩⟩
      case round =>
        obtain ⟨j, hj, rfl, HK⟩ := hrel
        by_cases hlt : j < l.length
        · have hlti : (j : Int) < (l.length : Int) := by omega
          have j0 : (0 : Int) ≤ (j : Int) := by omega
          obtain ⟨x, hx⟩ : ∃ x, x = l[j] := ⟨_, rfl⟩
          have hgr : wr.heap[g]? = some (.cells cur 114 (0, 0)) := (HK.out.2.block g (heap_lt HROW.out.2.1) (by have := HROW.out.1; have := HL.out.2; simp; omega)).trans HROW.out.2.1
          have hcell : ∀ i v, (lkC x)[i]? = some v → wr.cell? ⟨g, j * 8 + i, none⟩ = some v := fun i v hv => by
            rw [cell_of_row wr g _ _ _ _ hgr]
            have hj8 : i < 8 := by have := (List.getElem?_eq_some_iff.1 hv).1; simpa [lkC] using this
            have h1 := lksC_get l j hlt i hj8
            rw [← HROW.out.2.2, List.getElem?_take, if_pos (by omega), ← hx, hv] at h1
            simpa using h1
          have c0 := hcell 0 _ rfl
          have c1 := hcell 1 _ rfl
          have c2 := hcell 2 _ rfl
          have c3 := hcell 3 _ rfl
          have c4 := hcell 4 _ rfl
          have c5 := hcell 5 _ rfl
          have c6 := hcell 6 _ rfl
          have c7 := hcell 7 _ rfl
          rw [Nat.add_zero] at c0
          have hm : x ∈ l := by rw [hx]; exact List.getElem_mem _
          have hxg := HG.out.1 x hm
          have hxc := HG.out.2 x hm
          have HST : Hid (tblTo l t (j + 1) = chg ro (tblTo l t j) x) := Lib.hid (by rw [tblTo_succ hlt, ← hx, HRO.out])
          obtain ⟨⟨f1, f2⟩, ⟨t1, t2⟩, wr_, rm, cl, sg⟩ := x
          dsimp only at c0 c1 c2 c3 c4 c5 c6 c7 hxc
          have hcl := hxg.cell
          have hsg := hxg.sgn
          dsimp only at hcl hsg
          obtain ⟨Wa, hWa⟩ : ∃ Wa, Wa = wr.alloc (.cells #[.int .i64 f1, .int .i64 f2, .int .i64 t1, .int .i64 t2, .int .i64 wr_, .int .i64 rm, .int .i64 cl, .int .i64 sg] 114) := ⟨_, rfl⟩
          have hbA : Below wr.heap.size wr Wa := by rw [hWa]; exact (Below.refl _ _).alloc (Nat.le_refl _) _
          have hra : Wa.heap[wr.heap.size]? = some (.cells #[.int .i64 f1, .int .i64 f2, .int .i64 t1, .int .i64 t2, .int .i64 wr_, .int .i64 rm, .int .i64 cl, .int .i64 sg] 114 (0, 0)) := by rw [hWa]; exact heap_alloc_last _ _
          have HA := Lib.hid (And.intro (HK.out.1.below hbA) (HK.out.2.trans (HoleL.of_below hbA (Nat.le_refl _)) HK.out.2.size))
          by_cases gc : cl = -1
          · have gb : (cl == -1) = true := beq_iff_eq.2 gc
            have HGC := Lib.hid gc
            clear hcell hx hm gc hxg hgr hra
            go_wp2_with fail
            rw [← hWa]
            go_roundw
            case rel => exact ⟨j + 1, by omega, by go_num, Lib.hid ⟨by rw [HST.out, chg, if_pos HGC.out]; exact HA.out.1, HA.out.2⟩⟩
            case measure => simp [intOf]; omega
          · have gb : (cl == -1) = false := beq_eq_false_iff_ne.2 gc
            obtain ⟨ci, hci⟩ : ∃ ci : Nat, cl = (ci : Int) := ⟨cl.toNat, by omega⟩
            subst hci
            have cit : ci < t.length := by omega
            have htl := tblTo_length l t j
            obtain ⟨tl, htl2⟩ : ∃ n, n = (tblTo l t j).length := ⟨_, rfl⟩
            have b5 := HA.out.1.b5
            have tb := HA.out.1.tb (i := ci) (by rw [htl]; exact cit)
            have ft := HA.out.1.freeT ci
            rw [← htl2] at b5
            have citl : (ci : Int) < (tl : Int) := by rw [htl2, htl]; omega
            have ci0 : (0 : Int) ≤ (ci : Int) := by omega
            obtain ⟨tv, htv⟩ : ∃ tv, tv = tat (tblTo l t j) ci := ⟨_, rfl⟩
            rw [← htv] at tb
            have tvb := tblTo_bd HG.out.1 HT.out j hj ci
            rw [← htv] at tvb
            have rrb := HRB.out
            obtain ⟨q, hq⟩ : ∃ q, q = sg * ro := ⟨_, rfl⟩
            have hqb : -1099511627776 ≤ q ∧ q ≤ 1099511627776 := by
              have : sg = -1 ∨ sg = 0 ∨ sg = 1 := by omega
              rw [hq]
              rcases this with e | e | e <;> rw [e] <;> omega
            have hwr1 : IntKind.i64.wrap (sg * ro) = q := by rw [← hq]; exact IntWalk.i64_in _ (by omega)
            have hwr2 : IntKind.i64.wrap (tv + q) = tv + q := IntWalk.i64_in _ (by omega)
            have HST2 : Hid (tblTo l t (j + 1) = (tblTo l t j).set ci (tv + q)) := Lib.hid (by rw [HST.out, chg_cell (j := ci) rfl, htv, hq])
            have x6 : Wa.cell? ⟨wr.heap.size, 6, none⟩ = some (.int .i64 (ci : Int)) := by rw [cell_of_row _ _ _ _ _ _ hra]; rfl
            have x7 : Wa.cell? ⟨wr.heap.size, 7, none⟩ = some (.int .i64 sg) := by rw [cell_of_row _ _ _ _ _ _ hra]; rfl
            obtain ⟨bx, hbx⟩ : ∃ b, b = wr.heap.size := ⟨_, rfl⟩
            rw [← hbx] at x6 x7
            clear hcell hx hm hxg hgr hra htl htl2 htv hq tvb rrb hqb hxc hcl hsg gc
            go_upto_region 10 with fail
            rw [← hWa, ← hbx]
            clear hWa hbx c0 c1 c2 c3 c4 c5 c6 c7
            have q6 := kept_cell' x6
            have q7 := kept_cell' x7
            have q5 := kept_cell' b5
            have qt := kept_cell' tb
            refine wp_region_kept_tail 13 Wa.heap.size Wa (by kernel_rfl) (by kernel_rfl) (Below.refl _ _) ?_
            simp only [List.take_succ_cons, List.take_zero, List.drop_succ_cons, List.drop_zero]
            repeat (go_big_quiet_step (fail))
            refine wpQuiet_nil ?_
            rintro _ ⟨X, rfl⟩
            obtain ⟨V, hV⟩ : ∃ V, V = X.1 := ⟨_, rfl⟩
            have hX := X.2
            rw [← hV] at hX ⊢
            clear hV X q6 q7 q5 qt
            have hBV := HA.out.1.below hX
            have fV := hBV.freeT ci
            have tV := hBV.tb (i := ci) (by rw [tblTo_length]; exact cit)
            have HV := Lib.hid (And.intro hBV hX)
            clear hBV hX x6 x7 b5 tb ft hwr1
            go_wp2_with fail
            go_roundw
            case rel =>
              have hO := HA.out.2.trans (HoleL.of_below HV.out.2 (Nat.le_refl _)) HA.out.2.size
              refine ⟨j + 1, by omega, by go_num, Lib.hid ⟨?_, hO.set (.inl (by simp)) _⟩⟩
              rw [HST2.out]
              exact HV.out.1.setT HR.out.1 (HR.out.2.1.trans (hO.below HR.out.2.1.size (by simp; exact HR.out.2.2.2))) HR.out.2.2.2 ci (tv + q)
            case measure => simp [intOf]; omega
        · have hnl : ¬ (j : Int) < (l.length : Int) := by omega
          have HE : Hid (tblTo l t j = changeL t l) := Lib.hid (by rw [show j = l.length by omega, tblTo_end])
          go_wp2_with fail
          go_end0
          exact ⟨rfl, by rw [← HE.out]; exact HK.out.1, HK.out.2⟩
end Go.Proofs.YtcbhnhoicecnnaaDoor.Hand
namespace Go.Proofs.YtcbhnhoicecnnaaDoor.Hand
set_option linter.unusedVariables false
set_option linter.unusedSimpArgs false
open Go.RowKit
section
variable {P : Program} {ops : Array Oper} {n : Nat} {Q : Exit → Act → World → Prop}
theorem rows_round {r m : Nat} {row : String} {args : Array Value} {w : World} {R : Value → World → Prop} (h : Rows P row args w R) : RowsIn (Fence.wide.inRound r) m P row args w R :=
  fun c cs _ => let ⟨v, w', q, s⟩ := h c cs; ⟨v, w', q, stepsIn_wide.2 s⟩
theorem wp_round {r : Nat} {o : Oper} {a : Act} {w : World} {K : Act → World → Prop} (hd : ∀ c, o.op ≠ .defer c) (h : o.wp P a w K Q) : o.wpIn (Fence.wide.inRound r) n P a w K Q := by
  refine ⟨fun _ _ => trivial, ?_⟩
  rw [Oper.semAt_eq _ _ _ hd]
  unfold Oper.wp at h
  generalize (execOp a.eval o).run P w = q at *
  cases q with
  | halt x w' => cases x <;> exact h
  | ok x w' =>
    cases x with
    | enter f args => exact ⟨fun e => by simp [Fence.wide, Fence.inRound] at e, (callsIn_wide.2 h).inRound r⟩
    | row rw args => exact ⟨fun e => by simp [Fence.wide, Fence.inRound] at e, rows_round h⟩
    | round l f tmps as_ bd => exact h.elim
    | value v => exact h
    | skip => exact h
    | defer d => exact h
    | _ => exact h.elim
theorem any_roundW {md : Region.Mode} (r : Nat) (hQ : LetsOut Q → False) (hd : ∀ (i : Nat) (o : Oper), ops[i]? = some o → ∀ c, o.op ≠ .defer c) :
    ∀ (fuel : Nat) (listed : Array Bool) (a : Act) (w : World), wpAny P md ops Q fuel listed a w → wpAnyIn (Fence.wide.inRound r) n P md ops Q fuel listed a w
  | 0, _, _, _, h => h
  | fuel + 1, listed, a, w, h => ⟨h.1, fun i hi => by
      have hh := h.2 i hi
      unfold wpOp at hh
      unfold wpOpIn
      split
      · rename_i ho; simp only [ho] at hh; exact any_roundW r hQ hd fuel _ _ _ hh
      · rename_i o ho
        simp only [ho] at hh
        split
        · rename_i hg
          simp only [hg, if_true] at hh
          exact wp_round (hd i o ho) (Oper.wp_mono (fun a' w' h' => any_roundW r hQ hd fuel _ a' w' h') (hh.resolve_right fun g => hQ g.2))
        · rename_i hg
          simp only [hg] at hh
          exact ⟨fun _ _ => trivial, any_roundW r hQ hd fuel _ _ _ hh⟩⟩
theorem wpIn_region_held_list {l : List Oper} {k id : Nat} {a : Act} {w : World} (r : Nat) (hk : l.length = k) (hQ : LetsOut Q → False) (S : World → Prop) (hm : P.follows .mixedOrders = true) (hd : calmB l.toArray = true)
    (h : wpAnyH P .any l.toArray Q S k (Array.replicate k false) a w.drew) : (Code.region id l.toArray true).wpIn (Fence.wide.inRound r) n P Q a w := by
  subst hk
  refine wpIn_region_any hm ?_
  exact any_roundW r hQ (calm_spec hd) _ _ _ _ (wpAny_of_held _ _ _ _ (by simpa using h))
end
end Go.Proofs.YtcbhnhoicecnnaaDoor.Hand
namespace Go.Proofs.YtcbhnhoicecnnaaDoor.Hand
set_option linter.unusedVariables false
set_option linter.unusedSimpArgs false
open Go.RowKit Go.Shelf Go.Maps Go.Proofs.YtcbhnhoicecnnaaDoorW.PrintWords Go.Proofs.YtcbhnhoicecnnaaDoorW.PrintLast Go.Proofs.YtcbhnhoicecnnaaDoorW.PrintMore Go.Proofs.YtcbhnhoicecnnaaDoor.PrK
attribute [local go_sem] Oper.semAt_some
set_option maxHeartbeats 8000000 in
set_option maxRecDepth 100000 in
theorem circle_any (B Tb : Nat) (s : ShM) (fv : Value) (t : List Int) (w : World) (h : BookAt w B Tb s fv t) (ht : TOk s t) (w00 : World) (hv : VarsAt w00) (hr : ShR w00 s) (hw0 : Below w00.heap.size w00 w) (hwB : w00.heap.size ≤ B ∧ w00.heap.size ≤ Tb) :
    Calls Tryd.prog 79 #[.pointer (some ⟨B, 0, none⟩)] w fun e w' => ∃ v M, e = .returned v ∧ w'.ownsRow w.heap.size 114 8 v (circleS s.sh t).length (lksC (circleS s.sh t)) ∧
      BookAt w' B Tb s (.map (some M)) t ∧ w.heap.size ≤ M ∧ FarAt w' M (findS s.sh t).2.far ∧ HoleL [B] w.heap.size w w' := by
  have HB := Lib.hid h
  have HV := Lib.hid hv
  have HT := Lib.hid ht
  have HLT : Hid (B < w.heap.size ∧ Tb < w.heap.size) := Lib.hid ⟨heap_lt h.box, heap_lt h.tab⟩
  have HW := Lib.hid (And.intro hr (And.intro hw0 hwB))
  have hmm := @run_makeMap Tryd.prog
  obtain ⟨hz, hsz⟩ := zero_of_info zero_node
  clear h hv ht hr hw0 hwB
  refine (callsIn_wide (n := 9)).1 (callsIn_of_wp_marks Tryd.func79 rfl trivial (wpIn_wide.2 ?_) rfl)
  simp only [Tryd.ntmps79, List.size_toArray, List.length_cons, List.length_nil, Nat.reduceAdd, Nat.reduceSub, Array.replicate_succ, Array.replicate_zero, List.push_toArray, List.append_toArray, List.nil_append, List.cons_append]
  obtain ⟨W, hW⟩ : ∃ W, W = w.alloc (.cells #[.pointer (some ⟨B, 0, none⟩)] 73) := ⟨_, rfl⟩
  have hb1 : Below w.heap.size w W := by rw [hW]; exact (Below.refl _ _).alloc (Nat.le_refl _) _
  have e1 : W.cell? ⟨w.heap.size, 0, none⟩ = some (.pointer (some ⟨B, 0, none⟩)) := by rw [hW]; simp [go_sem]
  have hBk := HB.out.below hb1
  have hz1 : Hid (W.heap.size = w.heap.size + 1) := Lib.hid (by rw [hW]; simp)
  go_upto_region 1 with fail
  refine wp_scope_straight ?_
  rw [← hW]
  clear hW
  have hbM : Below W.heap.size W (W.alloc (.map #[] 0)) := (Below.refl _ _).alloc (Nat.le_refl _) _
  have m1 := (hbM.cell (cell_size e1)).trans e1
  have m6 := (hBk.below hbM).b6
  have n6 := (hBk.below hbM).free 6
  go_upto_region 2 with fail
  obtain ⟨W2, hW2⟩ : ∃ W2, W2 = (W.alloc (.map #[] 0)).setCell ⟨B, 6, none⟩ (.map (some W.heap.size)) := ⟨_, rfl⟩
  obtain ⟨M, hM⟩ : ∃ M, M = W.heap.size := ⟨_, rfl⟩
  have hbW : Below w00.heap.size w00 (W.alloc (.map #[] 0)) := HW.out.2.1.trans ((hb1.trans (hbM.mono hb1.size)).mono HW.out.2.1.size)
  have hB2 : BookAt W2 B Tb s (.map (some M)) t := by rw [hW2, hM]; exact (hBk.below hbM).setF HW.out.1 hbW HW.out.2.2.1 _
  have hF2 : FarAt W2 M bf0.far := ⟨_, by rw [hW2, hM]; exact (map_new W).of_heap (heap_setCell_other _ _ _ _ (by have := heap_lt hBk.box; simp only; omega)), fun k _ => rfl⟩
  have hO2 : HoleL [B] w.heap.size w W2 := by rw [hW2]; exact ((HoleL.of_below hb1 (Nat.le_refl _)).trans (HoleL.of_below hbM (Nat.le_refl _)) hb1.size).set (.inl (by simp)) _
  have hc2 : W2.cell? ⟨w.heap.size, 0, none⟩ = some (.pointer (some ⟨B, 0, none⟩)) := by rw [hW2, World.cell?_setCell_other _ _ _ _ (by have := HLT.out.1; simp <;> omega)]; exact m1
  have hz2 : Hid (W2.heap.size = w.heap.size + 2 ∧ M = w.heap.size + 1) := Lib.hid (by rw [hW2, hM]; have := hz1.out; simp; omega)
  rw [← hW2, ← hM]
  clear hW2 hM hbM m1 m6 n6 hb1 e1 hBk hbW hz1
  obtain ⟨W3, hW3⟩ : ∃ W3, W3 = (W2.alloc (.map #[] 0)).alloc (.cells #[.map (some W2.heap.size)] 116) := ⟨_, rfl⟩
  have hb3 : Below W2.heap.size W2 W3 := by rw [hW3]; exact ((Below.refl _ _).alloc (Nat.le_refl _) _).alloc (by simp) _
  have hM3 : BefAt W3 W2.heap.size bf0.bef := by
    have h1 : MapAt (W2.alloc (.map #[] 0)) W2.heap.size fun _ => none := map_new W2
    rw [hW3]; exact h1.below (n := W2.heap.size + 1) ((Below.refl _ _).alloc (by simp) _) (by omega)
  have hc3 : W3.cell? ⟨W2.heap.size + 1, 0, none⟩ = some (.map (some W2.heap.size)) := by rw [hW3]; simp [go_sem]
  have hz3 : Hid (W3.heap.size = W2.heap.size + 2) := Lib.hid (by rw [hW3]; simp)
  go_upto_region 3 with fail
  rw [← hW3]
  clear hW3
  obtain ⟨many, hmany⟩ : ∃ many, many = s.l0.length + s.l1.length + 2 := ⟨_, rfl⟩
  obtain ⟨n0, hn0⟩ : ∃ n, n = s.l0.length := ⟨_, rfl⟩
  obtain ⟨n1, hn1⟩ : ∃ n, n = s.l1.length := ⟨_, rfl⟩
  have i0 : (n0 : Int) ≤ 5 := by have := HT.out.n5; omega
  have i1 : (n1 : Int) ≤ 5 := by have := HT.out.m5; omega
  have HMN : Hid (manyS s.sh = many ∧ many ≤ 12) := Lib.hid ⟨by rw [hmany, manyS, ShM.len0, ShM.len1], by omega⟩
  have hB3 := hB2.below hb3
  have x1 := (hb3.cell (cell_size hc2)).trans hc2
  have x2 := hB3.b0
  have x3 := hB3.b1
  rw [← hn0] at x2
  rw [← hn1] at x3
  have q1 := kept_cell' x1
  have q2 := kept_cell' x2
  have q3 := kept_cell' x3
  have HA3 := Lib.hid (And.intro hB3 (And.intro (hO2.trans (HoleL.of_below hb3 (Nat.le_refl _)) hO2.size) (And.intro x1 (And.intro hc3 (And.intro (hF2.of_heap (hb3.block _ hF2.lt)) hM3)))))
  rw [← hn0, ← hn1] at hmany
  have HMM := Lib.hid hmany
  clear hB3 x1 x2 x3 hO2 hb3 hc2 hF2 hM3 hB2 hc3 hmany hn0 hn1
  refine wp_region_kept W3.heap.size W3 (by kernel_rfl) (by kernel_rfl) (Below.refl _ _) ?_
  repeat (go_big_quiet_step (fail))
  refine wpQuiet_nil ?_
  rintro _ ⟨X, rfl⟩
  obtain ⟨V, hV⟩ : ∃ V, V = X.1 := ⟨_, rfl⟩
  have hX := X.2
  rw [← hV] at hX ⊢
  clear hV X q1 q2 q3
  have HX := Lib.hid hX
  clear hX
  rw [show (n0 : Int) + (n1 : Int) + 2 = (many : Int) by have := HMM.out; omega]
  go_upto_block 0 with fail
  refine wp_label ?_
  go_upto_block 0 with fail
  obtain ⟨V4, hV4⟩ : ∃ V4, V4 = V.alloc (.cells (nodC (0, 0)) 92) := ⟨_, rfl⟩
  have hb4 : Below V.heap.size V V4 := by rw [hV4]; exact (Below.refl _ _).alloc (Nat.le_refl _) _
  have hn4 : NodeAt V4 V.heap.size (0, 0) := by rw [hV4]; exact heap_alloc_last _ _
  have hb34 := HX.out.trans (hb4.mono HX.out.size)
  rw [← hV4]
  clear hV4
  obtain ⟨b1, hb1⟩ : ∃ b, b = w.heap.size := ⟨_, rfl⟩
  obtain ⟨b3, hb3⟩ : ∃ b, b = W2.heap.size + 1 := ⟨_, rfl⟩
  obtain ⟨Mb, hMb⟩ : ∃ b, b = W2.heap.size := ⟨_, rfl⟩
  obtain ⟨b5, hb5⟩ : ∃ b, b = V.heap.size := ⟨_, rfl⟩
  have HNE : Hid (NeC w B Tb b1 b3 b5 M Mb) := Lib.hid (by
    have h1 := HLT.out; have h2 := hz2.out; have h3 := hz3.out; have h4 := HX.out.size
    obtain ⟨g1, g2⟩ := h1
    obtain ⟨g3, g4⟩ := h2
    constructor <;> omega)
  have HAT : Hid (AtC w B Tb b1 b3 b5 M Mb s t bf0 [] V4) := Lib.hid (by
    obtain ⟨h1, h2, h3, h4, h5, h6⟩ := HA3.out
    rw [hb1, hb3, hMb, hb5]
    exact ⟨h1.below hb34, h2.trans (HoleL.of_below hb34 (Nat.le_refl _)) h2.size, (hb34.cell (cell_size h3)).trans h3, (hb34.cell (cell_size h4)).trans h4, hn4, h5.of_heap (hb34.block _ h5.lt), MapAt.of_heap h6 (hb34.block _ (MapAt.lt h6)), List.nodup_nil, fun r hr => absurd hr List.not_mem_nil⟩)
  rw [← hb1, ← hb3, ← hb5]
  clear hb4 hn4 hb34 hb1 hb3 hMb hb5 HA3 HX hz2 hz3 HB
  refine wp_cut (fun a W' => ∃ (ds : List Deferred) (rs : List Nat) (σ : Bf (Int × Int) Lk) (u6 : Value), ∃ u7 u8 u9 u10 u11 u12 u13 u14 u15 u16 u17 u18 u19 u20 u21 u22 u23 u24 u25 u26 u27 u28 u29 u30 u31 u32 u33 u34 u35 u36 u37 u38 u39 u40 u41 u42 u43 u44 u45 u46 u47 u48 u49 u50 u51 u52 u53 u54 u55 u56 u57 u58 u59 u60 u61 u62 u63 u64 u65 u66 u67 u68 u69 u70 u71 u72 u73 u74 u75 u76 u77 u78 u79 u80 u81 u82 u83 u84 u85 u86 u87 u88 u89 u90 u91 u92 u93 u94 u95 u96 u97 u98 u99 u100 u101 u102 u103 u104 u105 u106 u107 u108 u109 u110 u111 u112 u113 : Value, a = { tmps := #[.pointer (some ⟨B, 0, none⟩), .pointer (some ⟨b1, 0, none⟩), .slice none 0 0, .pointer (some ⟨b3, 0, none⟩), .int .i64 (many : Int), .pointer (some ⟨b5, 0, none⟩), u6, u7, u8, u9, u10, u11, u12, u13, u14, u15, u16, u17, u18, u19, u20, u21, u22, u23, u24, u25, u26, u27, u28, u29, u30, u31, u32, u33, u34, u35, u36, u37, u38, u39, u40, u41, u42, u43, u44, u45, u46, u47, u48, u49, u50, u51, u52, u53, u54, u55, u56, u57, u58, u59, u60, u61, u62, u63, u64, u65, u66, u67, u68, u69, u70, u71, u72, u73, u74, u75, u76, u77, u78, u79, u80, u81, u82, u83, u84, u85, u86, u87, u88, u89, u90, u91, u92, u93, u94, u95, u96, u97, u98, u99, u100, u101, u102, u103, u104, u105, u106, u107, u108, u109, u110, u111, u112, u113], defers := ds } ∧ MarksOk ds rs ∧ Hid (AtC w B Tb b1 b3 b5 M Mb s t σ rs W' ∧ findS s.sh t = (false, σ) ∧ OkB 1000 σ)) ?rest ?first
  case first =>
    intro JC KC hJC hKC
    refine wp_block ?_
    refine wp_loop_ghost_k (fun k' a W' => ∃ (r : Nat) (ds : List Deferred) (rs : List Nat) (σ : Bf (Int × Int) Lk), ∃ u7 u8 u9 u10 u11 u12 u13 u14 u15 u16 u17 u18 u19 u20 u21 u22 u23 u24 u25 u26 u27 u28 u29 u30 u31 u32 u33 u34 u35 u36 u37 u38 u39 u40 u41 u42 u43 u44 u45 u46 u47 u48 u49 u50 u51 u52 u53 u54 u55 u56 u57 u58 u59 u60 u61 u62 u63 u64 u65 u66 u67 u68 u69 u70 u71 u72 u73 u74 u75 u76 u77 u78 u79 u80 u81 u82 u83 u84 u85 u86 u87 u88 u89 u90 u91 u92 u93 u94 u95 u96 u97 u98 u99 u100 u101 u102 u103 u104 u105 u106 u107 u108 u109 u110 u111 u112 u113 : Value, a = { tmps := #[.pointer (some ⟨B, 0, none⟩), .pointer (some ⟨b1, 0, none⟩), .slice none 0 0, .pointer (some ⟨b3, 0, none⟩), .int .i64 (many : Int), .pointer (some ⟨b5, 0, none⟩), .int .i64 (r : Int), u7, u8, u9, u10, u11, u12, u13, u14, u15, u16, u17, u18, u19, u20, u21, u22, u23, u24, u25, u26, u27, u28, u29, u30, u31, u32, u33, u34, u35, u36, u37, u38, u39, u40, u41, u42, u43, u44, u45, u46, u47, u48, u49, u50, u51, u52, u53, u54, u55, u56, u57, u58, u59, u60, u61, u62, u63, u64, u65, u66, u67, u68, u69, u70, u71, u72, u73, u74, u75, u76, u77, u78, u79, u80, u81, u82, u83, u84, u85, u86, u87, u88, u89, u90, u91, u92, u93, u94, u95, u96, u97, u98, u99, u100, u101, u102, u103, u104, u105, u106, u107, u108, u109, u110, u111, u112, u113], defers := ds } ∧ MarksOk ds rs ∧ Hid (AtC w B Tb b1 b3 b5 M Mb s t σ rs W' ∧ searchB Lk.fr Lk.to_ Lk.wr (liveL s.sh (tat t)) k' σ = findS s.sh t ∧ r + k' = many ∧ OkB (72 * (r : Int)) σ)) many ?h0 ?round
    case h0 =>
      refine ⟨0, [], [], bf0, ?_⟩
      (repeat apply Exists.intro)
      exact ⟨rfl, (show MarksOk [] [] from rfl), Lib.hid ⟨HAT.out, by rw [findS, HMN.out.1], by omega, okb0⟩⟩
    case round =>
      intro k' a0 W0 hinv J K hJ hK
      obtain ⟨r, ds, rs, σ, hinv⟩ := hinv
      obtain ⟨u7, hinv⟩ := hinv
      obtain ⟨u8, hinv⟩ := hinv
      obtain ⟨u9, hinv⟩ := hinv
      obtain ⟨u10, hinv⟩ := hinv
      obtain ⟨u11, hinv⟩ := hinv
      obtain ⟨u12, hinv⟩ := hinv
      obtain ⟨u13, hinv⟩ := hinv
      obtain ⟨u14, hinv⟩ := hinv
      obtain ⟨u15, hinv⟩ := hinv
      obtain ⟨u16, hinv⟩ := hinv
      obtain ⟨u17, hinv⟩ := hinv
      obtain ⟨u18, hinv⟩ := hinv
      obtain ⟨u19, hinv⟩ := hinv
      obtain ⟨u20, hinv⟩ := hinv
      obtain ⟨u21, hinv⟩ := hinv
      obtain ⟨u22, hinv⟩ := hinv
      obtain ⟨u23, hinv⟩ := hinv
      obtain ⟨u24, hinv⟩ := hinv
      obtain ⟨u25, hinv⟩ := hinv
      obtain ⟨u26, hinv⟩ := hinv
      obtain ⟨u27, hinv⟩ := hinv
      obtain ⟨u28, hinv⟩ := hinv
      obtain ⟨u29, hinv⟩ := hinv
      obtain ⟨u30, hinv⟩ := hinv
      obtain ⟨u31, hinv⟩ := hinv
      obtain ⟨u32, hinv⟩ := hinv
      obtain ⟨u33, hinv⟩ := hinv
      obtain ⟨u34, hinv⟩ := hinv
      obtain ⟨u35, hinv⟩ := hinv
      obtain ⟨u36, hinv⟩ := hinv
      obtain ⟨u37, hinv⟩ := hinv
      obtain ⟨u38, hinv⟩ := hinv
      obtain ⟨u39, hinv⟩ := hinv
      obtain ⟨u40, hinv⟩ := hinv
      obtain ⟨u41, hinv⟩ := hinv
      obtain ⟨u42, hinv⟩ := hinv
      obtain ⟨u43, hinv⟩ := hinv
      obtain ⟨u44, hinv⟩ := hinv
      obtain ⟨u45, hinv⟩ := hinv
      obtain ⟨u46, hinv⟩ := hinv
      obtain ⟨u47, hinv⟩ := hinv
      obtain ⟨u48, hinv⟩ := hinv
      obtain ⟨u49, hinv⟩ := hinv
      obtain ⟨u50, hinv⟩ := hinv
      obtain ⟨u51, hinv⟩ := hinv
      obtain ⟨u52, hinv⟩ := hinv
      obtain ⟨u53, hinv⟩ := hinv
      obtain ⟨u54, hinv⟩ := hinv
      obtain ⟨u55, hinv⟩ := hinv
      obtain ⟨u56, hinv⟩ := hinv
      obtain ⟨u57, hinv⟩ := hinv
      obtain ⟨u58, hinv⟩ := hinv
      obtain ⟨u59, hinv⟩ := hinv
      obtain ⟨u60, hinv⟩ := hinv
      obtain ⟨u61, hinv⟩ := hinv
      obtain ⟨u62, hinv⟩ := hinv
      obtain ⟨u63, hinv⟩ := hinv
      obtain ⟨u64, hinv⟩ := hinv
      obtain ⟨u65, hinv⟩ := hinv
      obtain ⟨u66, hinv⟩ := hinv
      obtain ⟨u67, hinv⟩ := hinv
      obtain ⟨u68, hinv⟩ := hinv
      obtain ⟨u69, hinv⟩ := hinv
      obtain ⟨u70, hinv⟩ := hinv
      obtain ⟨u71, hinv⟩ := hinv
      obtain ⟨u72, hinv⟩ := hinv
      obtain ⟨u73, hinv⟩ := hinv
      obtain ⟨u74, hinv⟩ := hinv
      obtain ⟨u75, hinv⟩ := hinv
      obtain ⟨u76, hinv⟩ := hinv
      obtain ⟨u77, hinv⟩ := hinv
      obtain ⟨u78, hinv⟩ := hinv
      obtain ⟨u79, hinv⟩ := hinv
      obtain ⟨u80, hinv⟩ := hinv
      obtain ⟨u81, hinv⟩ := hinv
      obtain ⟨u82, hinv⟩ := hinv
      obtain ⟨u83, hinv⟩ := hinv
      obtain ⟨u84, hinv⟩ := hinv
      obtain ⟨u85, hinv⟩ := hinv
      obtain ⟨u86, hinv⟩ := hinv
      obtain ⟨u87, hinv⟩ := hinv
      obtain ⟨u88, hinv⟩ := hinv
      obtain ⟨u89, hinv⟩ := hinv
      obtain ⟨u90, hinv⟩ := hinv
      obtain ⟨u91, hinv⟩ := hinv
      obtain ⟨u92, hinv⟩ := hinv
      obtain ⟨u93, hinv⟩ := hinv
      obtain ⟨u94, hinv⟩ := hinv
      obtain ⟨u95, hinv⟩ := hinv
      obtain ⟨u96, hinv⟩ := hinv
      obtain ⟨u97, hinv⟩ := hinv
      obtain ⟨u98, hinv⟩ := hinv
      obtain ⟨u99, hinv⟩ := hinv
      obtain ⟨u100, hinv⟩ := hinv
      obtain ⟨u101, hinv⟩ := hinv
      obtain ⟨u102, hinv⟩ := hinv
      obtain ⟨u103, hinv⟩ := hinv
      obtain ⟨u104, hinv⟩ := hinv
      obtain ⟨u105, hinv⟩ := hinv
      obtain ⟨u106, hinv⟩ := hinv
      obtain ⟨u107, hinv⟩ := hinv
      obtain ⟨u108, hinv⟩ := hinv
      obtain ⟨u109, hinv⟩ := hinv
      obtain ⟨u110, hinv⟩ := hinv
      obtain ⟨u111, hinv⟩ := hinv
      obtain ⟨u112, hinv⟩ := hinv
      obtain ⟨u113, hinv⟩ := hinv
      obtain ⟨rfl, hds, HI⟩ := hinv
      obtain ⟨hat, hse, hrk, hok⟩ := HI.out
      have r12 : r ≤ 12 := by have := HMN.out.2; omega
      have hb0 : Below W0.heap.size W0 (W0.alloc (.cells #[.int .i64 0] 3)) := (Below.refl _ _).alloc (Nat.le_refl _) _
      have e1 := hat.c1
      have e1' := (hb0.cell (cell_size e1)).trans e1
      have hlow : Below w00.heap.size w00 W0 := HW.out.2.1.trans (hat.hole.below HW.out.2.1.size (by simp; exact HW.out.2.2.1))
      have HLK := Lib.hid (links_any B Tb s _ t _ (HV.out.below (hlow.trans (hb0.mono hlow.size))) (hat.book.below hb0) HT.out)
      clear hat hse hrk hok
      go_wp2_with (first | (go_at_call 82; refine HLK.out.mono ?_; rintro e W1 ⟨bL, vL, rfl, h1⟩; have H1 := Lib.hid h1; clear h1))
      obtain ⟨b7, hb7⟩ : ∃ b, b = W0.heap.size := ⟨_, rfl⟩
      rw [← hb7]
      have hLpos : 0 < (linksL s.sh (tat t)).length := by
        rw [← lkA_is, lkA_length]; omega
      obtain ⟨h11, h12, h13, h14, h15⟩ := H1.out
      obtain ⟨g, c, cur, rfl, hg1, hg2, hg3⟩ := row_open h12 hLpos
      have hb01 : Below W0.heap.size W0 W1 := hb0.trans (h15.mono hb0.size)
      have h7 : W1.heap[b7]? = some (.cells #[.int .i64 0] 3 (0, 0)) := by
        rw [hb7]; exact (h15.block _ (by simp)).trans (heap_alloc_last _ _)
      have hgood := links_good HT.out
      have hlen := links_len HT.out
      obtain ⟨LA, hLA⟩ : ∃ LA : List LkG, LA.map (fun x => x.1) = (linksL s.sh (tat t)).filter (fun x => decide (0 < x.room)) := ⟨liveG _ hgood, liveG_val _ _⟩
      have HSEQ := Lib.hid (links_stops (α := LkG) (fun x => x.1) LA (linksL s.sh (tat t)) hLA bL g c W1 (by omega) (fun x hx => (hgood x hx).room) h11 cur hg2 hg3 8)
      have HA1 : Hid (AtC w B Tb b1 b3 b5 M Mb s t σ rs W1 ∧ Below W0.heap.size W0 W1) := Lib.hid ⟨HI.out.1.grow hb01, hb01⟩
      have HZ : Hid (M < b7 ∧ Mb < b7 ∧ b5 < b7 ∧ b1 < b7 ∧ b3 < b7 ∧ B < b7 ∧ b7 < g ∧ g < W1.heap.size ∧ b7 = W0.heap.size) := Lib.hid (by
        have hs := HI.out.1
        have a1 := hs.far.lt
        have a2 := MapAt.lt hs.bef
        have a3 := heap_lt hs.a5
        have a4 := cell_size hs.c1
        have a5 := cell_size hs.c3
        have a6 := hs.hole.size
        have a7 := HNE.out.B
        have a8 := heap_lt hg2
        rw [World.size_alloc] at hg1
        simp only at a4 a5
        omega)
      have HLL : Hid (LA.map (fun x => x.1) = liveL s.sh (tat t) ∧ LA.length ≤ 72) := Lib.hid ⟨hLA, by
        have : LA.length = ((linksL s.sh (tat t)).filter (fun x => decide (0 < x.room))).length := by rw [← hLA, List.length_map]
        have h2 := List.length_filter_le (fun x : Lk => decide (0 < x.room)) (linksL s.sh (tat t))
        omega⟩
      have HIN : Hid (InC W1 M Mb b5 b7 ⟨σ.far, σ.bef, σ.at_, 0⟩ W1) := Lib.hid (by
        have hs := HA1.out.1
        exact ⟨hs.far, hs.bef, hs.a5, h7, HoleL.refl _ _ _⟩)
      clear h11 h12 h13 h14 h15 hg1 hg2 hg3 hb01 h7 hgood hlen hLA hLpos hb0 e1 e1' hlow HLK H1 hb7
      refine (wpIn_wide (n := 9)).1 ?_
      refine wpIn_rangeFunc_ownH (F := Fence.wide) (α := LkG) (encs := fun x : LkG => #[lkV x.1]) (Kp := KeepG g) (S := fun xs : List LkG => xs = LA) (Sp := fun pre : List LkG => pre <+: LA) (N := LA.length) (w0 := W1) rfl (by decide) (gf := 85) (lb := #[.pointer (some ⟨bL, 0, none⟩)]) rfl trivial (enters_of Tryd.func85 (by kernel_rfl) rfl)
        HSEQ.out (fun h k => h.trans k) ?keepb (Below.refl _ _) (fun _ => rfl)
        (fun (pre : List LkG) W' => InC W1 M Mb b5 b7 ((pre.map (fun x => x.1)).foldl rlx ⟨σ.far, σ.bef, σ.at_, 0⟩) W')
        (fun _ _ _ => False)
        ?own
        (fun _ _ _ _ _ hs _ _ => hs)
        HIN.out
        (fun (x : LkG) a' W' => ∃ Bx, W1.heap.size ≤ Bx ∧ W'.heap[Bx]? = some (.cells (lkC x.1).toArray 114 (0, 0)) ∧
          a' = { tmps := #[.pointer (some ⟨B, 0, none⟩), .pointer (some ⟨b1, 0, none⟩), .slice none 0 0, .pointer (some ⟨b3, 0, none⟩), .int .i64 (many : Int), .pointer (some ⟨b5, 0, none⟩), .int .i64 (r : Int), .pointer (some ⟨b7, 0, none⟩), .pointer (some ⟨Bx, 0, none⟩), u9, u10, u11, u12, u13, u14, u15, u16, u17, u18, u19, u20, u21, u22, u23, u24, u25, u26, u27, u28, u29, u30, u31, u32, u33, .pointer (some ⟨B, 0, none⟩), .func (.func 85) #[] #[.pointer (some ⟨bL, 0, none⟩)], lkV x.1, u37, u38, u39, u40, u41, u42, u43, u44, u45, u46, u47, u48, u49, u50, u51, u52, u53, u54, u55, u56, u57, u58, u59, u60, u61, u62, u63, u64, u65, u66, u67, u68, u69, u70, u71, u72, u73, u74, u75, u76, u77, u78, u79, u80, u81, u82, u83, u84, u85, u86, u87, u88, u89, u90, u91, u92, u93, u94, u95, u96, u97, u98, u99, u100, u101, u102, u103, u104, u105, u106, u107, u108, u109, u110, u111, u112, u113], defers := [] })
        ?ax ?assign ?body ?done ?stop
      case own => exact InC.own (by have := HZ.out; omega) (by have := HZ.out; omega) (by have := HZ.out; omega) (by have := HZ.out; omega) _
      case keepb => exact fun W' lo o o' h1 _ _ _ => keepG_put o' (by have := HZ.out; omega)
      case ax =>
        rintro x a' _ X Y row ⟨Bx, hx1, hx2, rfl⟩ hg hr
        exact ⟨Bx, hx1, (hg.block Bx (heap_lt hx2) (fun e => by obtain ⟨_, o, ho, hc⟩ := hr Bx e.symm; rw [hx2] at ho; cases ho; cases hc)).trans hx2, rfl⟩
      case assign =>
        rintro lo pre x W' K hi hK
        dsimp only [lkV, lkC]
        gi_wp2
        have hb := (Below.refl W'.heap.size W').alloc (Nat.le_refl _) (.cells (lkC x.1).toArray 114)
        refine hK _ _ (KeepsFrom.of_grownBy (World.grownBy_alloc _ _ none) (fun j e => by cases e)) (KeepG.of_below hb (by have := HZ.out; have := hi.hole.size; omega)) (hi.grow hb) ⟨W'.heap.size, hi.hole.size, heap_alloc_last _ _, rfl⟩
      case stop =>
        rintro D cd pre W' _ _ h _
        exact h.elim
      case body =>
        rintro lo pre x a' W' hlo ⟨rec, hrec⟩ hi ⟨Bx, hx1, hx2, rfl⟩ hlen
        obtain ⟨x, hx⟩ := x
        obtain ⟨⟨f1, f2⟩, ⟨t1, t2⟩, wr, rm, cl, sg⟩ := x
        dsimp only at hx2
        obtain ⟨σp, hσp⟩ : ∃ σp, σp = (pre.map (fun x => x.1)).foldl rlx ⟨σ.far, σ.bef, σ.at_, 0⟩ := ⟨_, rfl⟩
        have hokp : OkB 1000 σp := by
          rw [hσp]
          have h1 : OkB (72 * (r : Int)) ⟨σ.far, σ.bef, σ.at_, 0⟩ := ⟨HI.out.2.2.2.far, HI.out.2.2.2.bef, HI.out.2.2.2.node⟩
          refine (OkB.fold (pre.map (fun x => x.1)) (fun y hy => by obtain ⟨z, _, rfl⟩ := List.mem_map.1 hy; exact z.2) h1).mono ?_
          rw [List.length_map]; have := HLL.out.2; omega
        have hmv : σp.moved ≤ 72 := by
          have h1 := moved_le (pre.map (fun x => x.1)) ⟨σ.far, σ.bef, σ.at_, 0⟩
          rw [← hσp, List.length_map] at h1
          have := HLL.out.2
          simp only at h1
          omega
        have HSP := Lib.hid hσp
        have HFD : Hid ((List.map (fun x : LkG => x.1) (pre ++ [⟨⟨(f1, f2), (t1, t2), wr, rm, cl, sg⟩, hx⟩])).foldl rlx ⟨σ.far, σ.bef, σ.at_, 0⟩ = rlx σp ⟨(f1, f2), (t1, t2), wr, rm, cl, sg⟩) := Lib.hid (by rw [List.map_append, List.foldl_append, ← hσp]; rfl)
        rw [← hσp] at hi
        have hmove : ∀ (p : Addr) (v : Value), p.block ∉ [M, Mb, b5, b7] → W1.cell? p = some v → W'.cell? p = some v := fun p v hn hv => by
          rw [hi.hole.cell (cell_size hv) hn]; exact hv
        have e1 := hmove ⟨b1, 0, none⟩ _ (by have h1 := HNE.out; have h2 := HZ.out; simp only [List.mem_cons, List.not_mem_nil, or_false, not_or]; exact ⟨h1.n1M, h1.n1Mb, h1.n15, by omega⟩) HA1.out.1.c1
        have e3 := hmove ⟨b3, 0, none⟩ _ (by have h1 := HNE.out; have h2 := HZ.out; simp only [List.mem_cons, List.not_mem_nil, or_false, not_or]; exact ⟨h1.n3M, h1.n3Mb, h1.n35, by omega⟩) HA1.out.1.c3
        have e6 := hmove ⟨B, 6, none⟩ _ (by have h1 := HNE.out; have h2 := HZ.out; have := h1.B; have := h1.lM; have := h1.lMb; have := h1.l5; simp only [List.mem_cons, List.not_mem_nil, or_false, not_or]; omega) HA1.out.1.book.b6
        have xc : ∀ (j : Nat) (v : Value), (lkC ⟨(f1, f2), (t1, t2), wr, rm, cl, sg⟩)[j]? = some v → W'.cell? ⟨Bx, j, none⟩ = some v := fun j v hv => by
          rw [cell_of_row W' _ _ _ _ _ hx2]; simpa using hv
        have q1 := kept_cell' e1
        have q3 := kept_cell' e3
        have q6 := kept_cell' e6
        have y0 := kept_cell' (xc 0 _ rfl)
        have y1 := kept_cell' (xc 1 _ rfl)
        have y2 := kept_cell' (xc 2 _ rfl)
        have y3 := kept_cell' (xc 3 _ rfl)
        have y4 := kept_cell' (xc 4 _ rfl)
        have y5 := kept_cell' (xc 5 _ rfl)
        have y6 := kept_cell' (xc 6 _ rfl)
        have y7 := kept_cell' (xc 7 _ rfl)
        dsimp only at y0 y1 y2 y3 y4 y5 y6 y7
        obtain ⟨ff, hff⟩ : ∃ ff, ff = σp.far (f1, f2) := ⟨_, rfl⟩
        obtain ⟨ft, hft⟩ : ∃ ft, ft = σp.far (t1, t2) := ⟨_, rfl⟩
        have hl1 : ∀ x : Kw W'.heap.size W', (Instr.lookup 77 (.map (some M)) (.agg #[.int .i64 f1, .int .i64 f2]) false).run Tryd.prog x.1 = .ok (.int .i64 ff) x.1 := fun x => by rw [hff]; exact (hi.far.of_heap (x.2.block M hi.far.lt)).look hx.fr
        have hl2 : ∀ x : Kw W'.heap.size W', (Instr.lookup 77 (.map (some M)) (.agg #[.int .i64 t1, .int .i64 t2]) false).run Tryd.prog x.1 = .ok (.int .i64 ft) x.1 := fun x => by rw [hft]; exact (hi.far.of_heap (x.2.block M hi.far.lt)).look hx.to_
        obtain ⟨fb1, fb2⟩ := hokp.far (f1, f2)
        rw [← hff] at fb1 fb2
        obtain ⟨wb1, wb2⟩ := hx.wr
        dsimp only at wb1 wb2
        have HBX := Lib.hid hx1
        have HF := Lib.hid (And.intro hff hft)
        have HIB := Lib.hid hi
        have HX := Lib.hid hx
        have HM := Lib.hid hmv
        clear hff hft hi hmv hx2 hmove xc hokp hσp e1 e3 e6 hrec hlen
        gi_wp2
        refine wpIn_region_kept lo W'.heap.size W' (by kernel_rfl) (by kernel_rfl) (by kernel_rfl) (Below.refl _ _) ?_
        repeat (go_big_quiet_step (fail))
        refine wpQuiet_nil ?_
        rintro _ ⟨X, rfl⟩
        obtain ⟨V1, hV⟩ : ∃ V, V = X.1 := ⟨_, rfl⟩
        have hX1 := X.2
        rw [← hV] at hX1 ⊢
        clear hV X
        gi_wp2
        by_cases gg : ff + wr < ft
        · have gd : decide (ff + wr < ft) = true := decide_eq_true gg
          have HG := Lib.hid gg
          clear gg
          refine wpIn_region_kept lo W'.heap.size W' (by kernel_rfl) (by kernel_rfl) (by kernel_rfl) hX1 ?_
          repeat (go_big_quiet_step (fail))
          refine wpQuiet_nil ?_
          rintro _ ⟨X, rfl⟩
          obtain ⟨V2, hV⟩ : ∃ V, V = X.1 := ⟨_, rfl⟩
          have hX2 := X.2
          rw [← hV] at hX2 ⊢
          clear hV X
          gi_wp2
          have hX3 := hX2.drew
          obtain ⟨V3, hV3⟩ : ∃ V, V = V2.drew := ⟨_, rfl⟩
          rw [← hV3] at hX3
          obtain ⟨SS, hSS⟩ : ∃ SS : World → Prop, SS = fun w' => w'.cell? ⟨b1, 0, none⟩ = some (.pointer (some ⟨B, 0, none⟩)) ∧ w'.cell? ⟨b3, 0, none⟩ = some (.map (some Mb)) ∧ w'.cell? ⟨B, 6, none⟩ = some (.map (some M)) ∧
              w'.cell? ⟨Bx, 0, none⟩ = some (.int .i64 f1) ∧ w'.cell? ⟨Bx, 1, none⟩ = some (.int .i64 f2) ∧ w'.cell? ⟨Bx, 2, none⟩ = some (.int .i64 t1) ∧ w'.cell? ⟨Bx, 3, none⟩ = some (.int .i64 t2) ∧
              w'.cell? ⟨Bx, 4, none⟩ = some (.int .i64 wr) ∧ w'.cell? ⟨Bx, 5, none⟩ = some (.int .i64 rm) ∧ w'.cell? ⟨Bx, 6, none⟩ = some (.int .i64 cl) ∧ w'.cell? ⟨Bx, 7, none⟩ = some (.int .i64 sg) := ⟨_, rfl⟩
          have hS : SS V3 := by rw [hSS]; exact ⟨q1 ⟨V3, hX3⟩, q3 ⟨V3, hX3⟩, q6 ⟨V3, hX3⟩, y0 ⟨V3, hX3⟩, y1 ⟨V3, hX3⟩, y2 ⟨V3, hX3⟩, y3 ⟨V3, hX3⟩, y4 ⟨V3, hX3⟩, y5 ⟨V3, hX3⟩, y6 ⟨V3, hX3⟩, y7 ⟨V3, hX3⟩⟩
          have hSk : ∀ {Y Z : World} {m : Nat}, SS Y → Y.grownBy Z (some m) → m = M ∨ m = Mb ∨ m = b5 → SS Z := fun {Y Z m} hY hg hm => by
            have hf : ∀ (p : Addr) (v : Value), p.block ≠ M → p.block ≠ Mb → p.block ≠ b5 → Y.cell? p = some v → Z.cell? p = some v := fun p v n1 n2 n3 hv => hg.cell hv (fun e => by cases e; rcases hm with h | h | h; exact n1 h; exact n2 h; exact n3 h)
            have nb := HNE.out
            have nB := nb.B; have nM := nb.lM; have nMb := nb.lMb; have n5 := nb.l5
            have nz := HZ.out
            have nx := HBX.out
            rw [hSS] at hY ⊢
            obtain ⟨g1, g3, g6, z0, z1, z2, z3, z4, z5, z6, z7⟩ := hY
            exact ⟨hf _ _ nb.n1M nb.n1Mb nb.n15 g1, hf _ _ nb.n3M nb.n3Mb nb.n35 g3, hf _ _ (by simp only; omega) (by simp only; omega) (by simp only; omega) g6, hf _ _ (by simp only; omega) (by simp only; omega) (by simp only; omega) z0, hf _ _ (by simp only; omega) (by simp only; omega) (by simp only; omega) z1, hf _ _ (by simp only; omega) (by simp only; omega) (by simp only; omega) z2, hf _ _ (by simp only; omega) (by simp only; omega) (by simp only; omega) z3,
              hf _ _ (by simp only; omega) (by simp only; omega) (by simp only; omega) z4, hf _ _ (by simp only; omega) (by simp only; omega) (by simp only; omega) z5, hf _ _ (by simp only; omega) (by simp only; omega) (by simp only; omega) z6, hf _ _ (by simp only; omega) (by simp only; omega) (by simp only; omega) z7⟩
          clear hX1 hX2 hl1 hl2 q1 q3 q6 y0 y1 y2 y3 y4 y5 y6 y7 V1
          have hi3 := HIB.out.grow hX3
          obtain ⟨v0, st, Wa, Wb, ra, rb, hfb, hga, hgb⟩ := hi3.far.entry HX.out.to_ (ff + wr)
          have hnM : ∀ {A : Prop}, (Mb ≠ M → b5 ≠ M → b5 ≠ Mb → b7 ≠ M → b7 ≠ Mb → b7 ≠ b5 → A) → A := fun h => h (Ne.symm HNE.out.nMM) HNE.out.n5M HNE.out.n5Mb (by have := HZ.out; omega) (by have := HZ.out; omega) (by have := HZ.out; omega)
          have hbb : BefAt Wb Mb σp.bef := MapAt.of_heap hi3.bef (hgb.block Mb (MapAt.lt hi3.bef) (fun e => HNE.out.nMM (by cases e; rfl)))
          obtain ⟨Wc, rc, hbc, hgc⟩ := hbb.put HX.out.to_ ⟨(f1, f2), (t1, t2), wr, rm, cl, sg⟩
          have hfc := hfb.of_heap (hgc.block M hfb.lt (fun e => HNE.out.nMM (by cases e; rfl)))
          have ha5 : NodeAt Wc b5 σp.at_ := (hi3.a5.of_heap (hgb.block b5 (heap_lt hi3.a5) (fun e => HNE.out.n5M (by cases e; rfl)))).of_heap (hgc.block b5 (by have := heap_lt hi3.a5; have := hgb.size; omega) (fun e => HNE.out.n5Mb (by cases e; rfl)))
          have h7b : Wb.heap[b7]? = some (.cells #[.int .i64 (σp.moved : Int)] 3 (0, 0)) := (hgb.block b7 (heap_lt hi3.a7) (fun e => by cases e; have := HZ.out; omega)).trans hi3.a7
          have h7c : Wc.heap[b7]? = some (.cells #[.int .i64 (σp.moved : Int)] 3 (0, 0)) := (hgc.block b7 (heap_lt h7b) (fun e => by cases e; have := HZ.out; omega)).trans h7b
          have hs5 := ha5.set (t1, t2)
          have n75 : b7 ≠ b5 := by have := HZ.out; omega
          have h7d : ((Wc.setCell ⟨b5, 0, none⟩ (.int .i64 t1)).setCell ⟨b5, 1, none⟩ (.int .i64 t2)).heap[b7]? = some (.cells #[.int .i64 (σp.moved : Int)] 3 (0, 0)) := heap_far (heap_far h7c n75 _) n75 _
          obtain ⟨mv, hmv⟩ : ∃ mv, mv = σp.moved := ⟨_, rfl⟩
          have mb : (mv : Int) ≤ 72 := by have := HM.out; omega
          have m0 : (0 : Int) ≤ (mv : Int) := by omega
          rw [← hmv] at h7d
          have d7 := cell_of_row _ b7 0 _ _ _ h7d
          have f7 := frozen_of_row _ b7 0 _ _ h7d
          have d50 := ha5.c0
          have d51 := ha5.c1
          have f50 := ha5.free 0
          have f51 := ha5.free 1
          have hSa := hSk hS hga (.inl rfl)
          have hSb := hSk hS hgb (.inl rfl)
          have hSc := hSk hSb hgc (.inr (.inl rfl))
          have hSd : SS ((Wc.setCell ⟨b5, 0, none⟩ (.int .i64 t1)).setCell ⟨b5, 1, none⟩ (.int .i64 t2)) := hSk hSc (World.grownBy.trans (grown_set5 _ _ _ _) (grown_set5 _ _ _ _)) (.inr (.inr rfl))
          have H3 := Lib.hid (And.intro hX3 (And.intro hga (And.intro hgb (And.intro hgc (And.intro hfc (And.intro hbc (And.intro hs5 h7d)))))))
          have HMV := Lib.hid hmv
          dsimp only [nodeV] at ra rb rc
          clear hX3 hi3 hga hgb hgc hfc hbc hs5 h7b h7c h7d ha5 hfb hbb hmv hnM hSk
          have HSD := Lib.hid (And.intro hSa (And.intro hSb (And.intro hSc hSd)))
          rw [hV3] at hS ra
          have HSS := Lib.hid hSS
          clear hSS hSa hSb hSc hSd
          refine wpIn_region_held_list (k := 18) lo rfl (fun h => ?_) SS (by kernel_rfl) (by kernel_rfl) ?_
          · obtain ⟨_, _, h⟩ := h; exact h.elim
          refine tk 0 (.pointer (some ⟨B, 0, none⟩)) rfl (fun w' hw' => by rw [HSS.out] at hw'; obtain ⟨q1, q3, q6, y0, y1, y2, y3, y4, y5, y6, y7⟩ := hw'; go_simp) hS ?_
          refine tk 1 (.pointer (some ⟨B, 0, none⟩)) rfl (fun w' hw' => by rw [HSS.out] at hw'; obtain ⟨q1, q3, q6, y0, y1, y2, y3, y4, y5, y6, y7⟩ := hw'; go_simp) hS ?_
          refine tk 2 (.pointer (some ⟨B, 6, none⟩)) rfl (fun w' hw' => by rw [HSS.out] at hw'; obtain ⟨q1, q3, q6, y0, y1, y2, y3, y4, y5, y6, y7⟩ := hw'; go_simp) hS ?_
          refine tk 3 (.map (some M)) rfl (fun w' hw' => by rw [HSS.out] at hw'; obtain ⟨q1, q3, q6, y0, y1, y2, y3, y4, y5, y6, y7⟩ := hw'; go_simp) hS ?_
          (try simp only [Act.put, List.setIfInBounds_toArray, List.set_cons_zero, List.set_cons_succ])
          refine tk 4 (.pointer (some ⟨Bx, 2, none⟩)) rfl (fun w' hw' => by rw [HSS.out] at hw'; obtain ⟨q1, q3, q6, y0, y1, y2, y3, y4, y5, y6, y7⟩ := hw'; go_simp) hS ?_
          refine tk 5 (.agg #[.int .i64 t1, .int .i64 t2]) rfl (fun w' hw' => by rw [HSS.out] at hw'; obtain ⟨q1, q3, q6, y0, y1, y2, y3, y4, y5, y6, y7⟩ := hw'; go_simp) hS ?_
          refine tk 6 (.map (some Mb)) rfl (fun w' hw' => by rw [HSS.out] at hw'; obtain ⟨q1, q3, q6, y0, y1, y2, y3, y4, y5, y6, y7⟩ := hw'; go_simp) hS ?_
          refine tk 7 (.pointer (some ⟨Bx, 2, none⟩)) rfl (fun w' hw' => by rw [HSS.out] at hw'; obtain ⟨q1, q3, q6, y0, y1, y2, y3, y4, y5, y6, y7⟩ := hw'; go_simp) hS ?_
          (try simp only [Act.put, List.setIfInBounds_toArray, List.set_cons_zero, List.set_cons_succ])
          refine tk 8 (.agg #[.int .i64 t1, .int .i64 t2]) rfl (fun w' hw' => by rw [HSS.out] at hw'; obtain ⟨q1, q3, q6, y0, y1, y2, y3, y4, y5, y6, y7⟩ := hw'; go_simp) hS ?_
          refine tk 9 (.int .i64 (ff + wr)) rfl (fun w' hw' => by rw [HSS.out] at hw'; obtain ⟨q1, q3, q6, y0, y1, y2, y3, y4, y5, y6, y7⟩ := hw'; go_simp) hS ?_
          refine tk 10 (lkV ⟨(f1, f2), (t1, t2), wr, rm, cl, sg⟩) rfl (fun w' hw' => by rw [HSS.out] at hw'; obtain ⟨q1, q3, q6, y0, y1, y2, y3, y4, y5, y6, y7⟩ := hw'; go_simp; rfl) hS ?_
          refine tk 11 (.pointer (some ⟨Bx, 2, none⟩)) rfl (fun w' hw' => by rw [HSS.out] at hw'; obtain ⟨q1, q3, q6, y0, y1, y2, y3, y4, y5, y6, y7⟩ := hw'; go_simp) hS ?_
          (try simp only [Act.put, List.setIfInBounds_toArray, List.set_cons_zero, List.set_cons_succ])
          refine tk 12 (.agg #[.int .i64 t1, .int .i64 t2]) rfl (fun w' hw' => by rw [HSS.out] at hw'; obtain ⟨q1, q3, q6, y0, y1, y2, y3, y4, y5, y6, y7⟩ := hw'; go_simp) hS ?_
          refine step_list (i := 13) (by kernel_rfl) rfl (by rfl) (fun K hK => ?_)
          go_simp
          refine hK _ _ HSD.out.1 ?_
          clear hK K
          (try simp only [Act.put, List.setIfInBounds_toArray, List.set_cons_zero, List.set_cons_succ])
          refine step_list (i := 14) (by kernel_rfl) rfl (by rfl) (fun K hK => ?_)
          go_simp
          refine hK _ _ HSD.out.1 ?_
          clear hK K
          (try simp only [Act.put, List.setIfInBounds_toArray, List.set_cons_zero, List.set_cons_succ])
          refine step_list (i := 15) (by kernel_rfl) rfl (by rfl) (fun K hK => ?_)
          go_simp
          refine hK _ _ HSD.out.2.1 ?_
          clear hK K
          (try simp only [Act.put, List.setIfInBounds_toArray, List.set_cons_zero, List.set_cons_succ])
          refine step_list (i := 16) (by kernel_rfl) rfl (by rfl) (fun K hK => ?_)
          go_simp
          refine hK _ _ HSD.out.2.2.1 ?_
          clear hK K
          (try simp only [Act.put, List.setIfInBounds_toArray, List.set_cons_zero, List.set_cons_succ])
          refine step_list (i := 17) (by kernel_rfl) rfl (by rfl) (fun K hK => ?_)
          go_simp
          refine hK _ _ HSD.out.2.2.2 ?_
          clear hK K
          (try simp only [Act.put, List.setIfInBounds_toArray, List.set_cons_zero, List.set_cons_succ])
          refine wpAnyH_done (by kernel_rfl) ?_ _
          gi_wp2
          obtain ⟨hX3, hga, hgb, hgc, hfc, hbc, hs5, h7d⟩ := H3.out
          have hn := HNE.out
          have hz := HZ.out
          have n7M : b7 ≠ M := by omega
          have n7Mb : b7 ≠ Mb := by omega
          obtain ⟨Wd, hWd⟩ : ∃ Wd, Wd = (Wc.setCell ⟨b5, 0, none⟩ (.int .i64 t1)).setCell ⟨b5, 1, none⟩ (.int .i64 t2) := ⟨_, rfl⟩
          have hgd : Wc.grownBy Wd (some b5) := by rw [hWd]; exact (grown_set5 _ _ _ _).trans (grown_set5 _ _ _ _)
          rw [← hWd] at hs5 h7d ⊢
          have hge := grown_set5 Wd b7 0 (.int .i64 ((mv : Int) + 1))
          have hI3 := HIB.out.hole
          have hH : HoleL [M, Mb, b5, b7] W'.heap.size W' (Wd.setCell ⟨b7, 0, none⟩ (.int .i64 ((mv : Int) + 1))) := by
            have a1 : HoleL [M, Mb, b5, b7] W'.heap.size W' V3 := HoleL.of_below hX3 (Nat.le_refl _)
            have a2 := a1.trans (HoleL.of_grown (bs := [M, Mb, b5, b7]) hgb (by simp) a1.size) (Nat.le_refl _)
            have a3 := a2.trans (HoleL.of_grown (bs := [M, Mb, b5, b7]) hgc (by simp) a2.size) (Nat.le_refl _)
            have a4 := a3.trans (HoleL.of_grown (bs := [M, Mb, b5, b7]) hgd (by simp) a3.size) (Nat.le_refl _)
            exact a4.trans (HoleL.of_grown (bs := [M, Mb, b5, b7]) hge (by simp) a4.size) (Nat.le_refl _)
          refine ⟨keepsF_hole hH rfl (by simp; omega), KeepG.of_hole hH (by have := hI3.size; omega) (by simp; omega), ?_⟩
          show InC W1 M Mb b5 b7 ((List.map (fun x : LkG => x.1) (pre ++ [⟨⟨(f1, f2), (t1, t2), wr, rm, cl, sg⟩, hx⟩])).foldl rlx ⟨σ.far, σ.bef, σ.at_, 0⟩) _
          rw [HFD.out, rlx_yes (by have h := HG.out; rw [HF.out.1, HF.out.2] at h; exact h)]
          refine ⟨?_, ?_, ?_, ?_, hI3.trans hH hI3.size⟩
          · have h1 := (hfc.of_heap (hgd.block M hfc.lt (fun e => hn.n5M (by cases e; rfl))))
            have h2 := h1.of_heap (hge.block M h1.lt (fun e => n7M (by cases e; rfl)))
            rw [HF.out.1] at h2
            exact h2
          · have h1 := MapAt.of_heap hbc (hgd.block Mb (MapAt.lt hbc) (fun e => hn.n5Mb (by cases e; rfl)))
            exact MapAt.of_heap h1 (hge.block Mb (MapAt.lt h1) (fun e => n7Mb (by cases e; rfl)))
          · exact hs5.of_heap (hge.block b5 (heap_lt hs5) (fun e => by cases e; omega))
          · have := heap_setCell_same Wd b7 0 _ _ (.int .i64 ((mv : Int) + 1)) h7d
            rw [HMV.out] at this ⊢
            exact this
        · have gd : decide (ff + wr < ft) = false := decide_eq_false gg
          have HG := Lib.hid gg
          clear gg
          refine wpIn_region_kept lo W'.heap.size W' (by kernel_rfl) (by kernel_rfl) (by kernel_rfl) hX1 ?_
          repeat (go_big_quiet_step (fail))
          refine wpQuiet_nil ?_
          rintro _ ⟨X, rfl⟩
          obtain ⟨V2, hV⟩ : ∃ V, V = X.1 := ⟨_, rfl⟩
          have hX2 := X.2
          rw [← hV] at hX2 ⊢
          clear hV X
          clear hX1 hl1 hl2 q1 q3 q6 y0 y1 y2 y3 y4 y5 y6 y7 V1
          have HX2 := Lib.hid hX2
          clear hX2
          gi_wp2
          have hb := HX2.out
          refine ⟨keepsF_hole (bs := []) (HoleL.of_below hb (Nat.le_refl _)) rfl (by simp), KeepG.of_below hb (by have := HZ.out; have := HIB.out.hole.size; omega), ?_⟩
          show InC W1 M Mb b5 b7 ((List.map (fun x : LkG => x.1) (pre ++ [⟨⟨(f1, f2), (t1, t2), wr, rm, cl, sg⟩, hx⟩])).foldl rlx ⟨σ.far, σ.bef, σ.at_, 0⟩) V2
          rw [HFD.out, rlx_no (by have h := HG.out; rw [HF.out.1, HF.out.2] at h; exact Int.not_lt.2 h)]
          exact HIB.out.grow hb
      case done =>
        intro D ys W' hD hys hi hDK
        have hfold : (ys.map (fun x : LkG => x.1)) = liveL s.sh (tat t) := by rw [hys]; exact HLL.out.1
        obtain ⟨σn, hσn⟩ : ∃ σn, σn = roundB Lk.fr Lk.to_ Lk.wr (liveL s.sh (tat t)) σ := ⟨_, rfl⟩
        have hi' : InC W1 M Mb b5 b7 ((ys.map (fun x : LkG => x.1)).foldl rlx ⟨σ.far, σ.bef, σ.at_, 0⟩) W' := hi
        rw [hfold, show (liveL s.sh (tat t)).foldl rlx ⟨σ.far, σ.bef, σ.at_, 0⟩ = σn by rw [hσn]; rfl] at hi'
        have hlen : (liveL s.sh (tat t)).length ≤ 72 := by rw [← HLL.out.1, List.length_map]; exact HLL.out.2
        have hgl : ∀ x ∈ liveL s.sh (tat t), Good x := fun x hx => links_good HT.out x (List.mem_filter.1 hx).1
        have HOK : Hid (OkB (72 * ((r + 1 : Nat) : Int)) σn ∧ σn.moved ≤ 72) := Lib.hid (by
          have h1 : OkB (72 * (r : Int)) ⟨σ.far, σ.bef, σ.at_, 0⟩ := ⟨HI.out.2.2.2.far, HI.out.2.2.2.bef, HI.out.2.2.2.node⟩
          have h2 := OkB.fold (liveL s.sh (tat t)) hgl h1
          have h3 := moved_le (liveL s.sh (tat t)) ⟨σ.far, σ.bef, σ.at_, 0⟩
          rw [show (liveL s.sh (tat t)).foldl rlx ⟨σ.far, σ.bef, σ.at_, 0⟩ = σn by rw [hσn]; rfl] at h2 h3
          simp only at h3
          exact ⟨h2.mono (by push_cast; omega), by omega⟩)
        have HAN : Hid (AtC w B Tb b1 b3 b5 M Mb s t σn (D :: rs) W') := Lib.hid (HI.out.1.next HA1.out.2 (by have := HZ.out; omega) hi' HNE.out HW.out.1 HW.out.2.1 HW.out.2.2 hD hDK)
        have hds' : MarksOk ({ target := .collected D, args := #[] } :: ds) (D :: rs) := by rw [MarksOk, hds, List.map_cons]
        obtain ⟨mv, hmv⟩ : ∃ mv, mv = σn.moved := ⟨_, rfl⟩
        have c7 := cell_of_row W' b7 0 _ _ _ hi'.a7
        rw [← hmv] at c7
        dsimp at c7
        have HSE := Lib.hid HI.out.2.1
        have HRK := Lib.hid HI.out.2.2.1
        have HSN := Lib.hid (And.intro hσn hmv)
        have HDS := Lib.hid hds'
        clear hi hi' hfold hlen hgl hσn hmv hD hys hDK HIN HA1 HZ HLL HSEQ hds' HI
        by_cases gm : mv = 0
        · have gb : ((mv : Int) == 0) = true := by rw [gm]; rfl
          have HGM := Lib.hid gm
          clear gm
          gi_wp2
          go_wp2_with fail
          show LeavesInM Fence.wide 9 Tryd.prog Tryd.f79 _ _ ({ target := .collected D, args := #[] } :: ds) .returning W'
          rw [HDS.out]
          refine leaves_marks (.slice none 0 0) (D :: rs) W' HAN.out.nd (fun r hr => (HAN.out.marks r hr).2) fun W'' hk ho ht hu hs => ⟨by rw [results_tmp (t := 2) rfl]; rfl, ?_⟩
          obtain ⟨-, l1, l2, l3⟩ := HAN.out.leave HW.out.1 HW.out.2.1 HW.out.2.2 hk ho ht hu hs
          have hfs : findS s.sh t = (true, σn) := by
            rw [← HSE.out, HSN.out.1]
            exact search_zero (by rw [← HSN.out.1, ← HSN.out.2]; exact HGM.out) _
          have hc0 : circleS s.sh t = [] := by unfold circleS; rw [hfs]; rfl
          refine ⟨_, M, rfl, ?_, l1, HNE.out.lM, ?_, l3⟩
          · rw [hc0]; exact ⟨rfl, .inl ⟨rfl, rfl⟩⟩
          · rw [hfs]; exact l2
        · have gb : ((mv : Int) == 0) = false := beq_eq_false_iff_ne.2 (by omega)
          have HGM : Hid (¬ (roundB Lk.fr Lk.to_ Lk.wr (liveL s.sh (tat t)) σ).moved = 0) := Lib.hid (by rw [← HSN.out.1, ← HSN.out.2]; exact gm)
          clear gm
          cases k' with
          | zero =>
            have gl : ¬ ((r : Int) < (many : Int)) := by have := HRK.out; omega
            gi_wp2
            go_wp2_with fail
            refine Met.intro (hJC _ _ ⟨{ target := .collected D, args := #[] } :: ds, D :: rs, σn, ?_⟩)
            (repeat apply Exists.intro)
            refine ⟨rfl, HDS.out, Lib.hid ⟨HAN.out, ?_, HOK.out.1.mono (by have := HRK.out; have := HMN.out.2; omega)⟩⟩
            rw [← HSE.out, HSN.out.1]
            exact search_last HGM.out
          | succ k'' =>
            have gl : (r : Int) < (many : Int) := by have := HRK.out; omega
            have r12 : (r : Int) ≤ 12 := by have := HRK.out; have := HMN.out.2; omega
            gi_wp2
            go_wp2_with fail
            refine Handed.intro k'' (by omega) (hJ _ _ _ ⟨r + 1, { target := .collected D, args := #[] } :: ds, D :: rs, σn, ?_⟩)
            (repeat apply Exists.intro)
            refine ⟨rfl, HDS.out, Lib.hid ⟨HAN.out, ?_, by have := HRK.out; omega, HOK.out.1⟩⟩
            rw [← HSE.out, HSN.out.1]
            exact (search_more HGM.out k'').symm
  case rest =>
    rintro a1 W1 hinv
    obtain ⟨ds, rs, σ, u6, hinv⟩ := hinv
    obtain ⟨u7, hinv⟩ := hinv
    obtain ⟨u8, hinv⟩ := hinv
    obtain ⟨u9, hinv⟩ := hinv
    obtain ⟨u10, hinv⟩ := hinv
    obtain ⟨u11, hinv⟩ := hinv
    obtain ⟨u12, hinv⟩ := hinv
    obtain ⟨u13, hinv⟩ := hinv
    obtain ⟨u14, hinv⟩ := hinv
    obtain ⟨u15, hinv⟩ := hinv
    obtain ⟨u16, hinv⟩ := hinv
    obtain ⟨u17, hinv⟩ := hinv
    obtain ⟨u18, hinv⟩ := hinv
    obtain ⟨u19, hinv⟩ := hinv
    obtain ⟨u20, hinv⟩ := hinv
    obtain ⟨u21, hinv⟩ := hinv
    obtain ⟨u22, hinv⟩ := hinv
    obtain ⟨u23, hinv⟩ := hinv
    obtain ⟨u24, hinv⟩ := hinv
    obtain ⟨u25, hinv⟩ := hinv
    obtain ⟨u26, hinv⟩ := hinv
    obtain ⟨u27, hinv⟩ := hinv
    obtain ⟨u28, hinv⟩ := hinv
    obtain ⟨u29, hinv⟩ := hinv
    obtain ⟨u30, hinv⟩ := hinv
    obtain ⟨u31, hinv⟩ := hinv
    obtain ⟨u32, hinv⟩ := hinv
    obtain ⟨u33, hinv⟩ := hinv
    obtain ⟨u34, hinv⟩ := hinv
    obtain ⟨u35, hinv⟩ := hinv
    obtain ⟨u36, hinv⟩ := hinv
    obtain ⟨u37, hinv⟩ := hinv
    obtain ⟨u38, hinv⟩ := hinv
    obtain ⟨u39, hinv⟩ := hinv
    obtain ⟨u40, hinv⟩ := hinv
    obtain ⟨u41, hinv⟩ := hinv
    obtain ⟨u42, hinv⟩ := hinv
    obtain ⟨u43, hinv⟩ := hinv
    obtain ⟨u44, hinv⟩ := hinv
    obtain ⟨u45, hinv⟩ := hinv
    obtain ⟨u46, hinv⟩ := hinv
    obtain ⟨u47, hinv⟩ := hinv
    obtain ⟨u48, hinv⟩ := hinv
    obtain ⟨u49, hinv⟩ := hinv
    obtain ⟨u50, hinv⟩ := hinv
    obtain ⟨u51, hinv⟩ := hinv
    obtain ⟨u52, hinv⟩ := hinv
    obtain ⟨u53, hinv⟩ := hinv
    obtain ⟨u54, hinv⟩ := hinv
    obtain ⟨u55, hinv⟩ := hinv
    obtain ⟨u56, hinv⟩ := hinv
    obtain ⟨u57, hinv⟩ := hinv
    obtain ⟨u58, hinv⟩ := hinv
    obtain ⟨u59, hinv⟩ := hinv
    obtain ⟨u60, hinv⟩ := hinv
    obtain ⟨u61, hinv⟩ := hinv
    obtain ⟨u62, hinv⟩ := hinv
    obtain ⟨u63, hinv⟩ := hinv
    obtain ⟨u64, hinv⟩ := hinv
    obtain ⟨u65, hinv⟩ := hinv
    obtain ⟨u66, hinv⟩ := hinv
    obtain ⟨u67, hinv⟩ := hinv
    obtain ⟨u68, hinv⟩ := hinv
    obtain ⟨u69, hinv⟩ := hinv
    obtain ⟨u70, hinv⟩ := hinv
    obtain ⟨u71, hinv⟩ := hinv
    obtain ⟨u72, hinv⟩ := hinv
    obtain ⟨u73, hinv⟩ := hinv
    obtain ⟨u74, hinv⟩ := hinv
    obtain ⟨u75, hinv⟩ := hinv
    obtain ⟨u76, hinv⟩ := hinv
    obtain ⟨u77, hinv⟩ := hinv
    obtain ⟨u78, hinv⟩ := hinv
    obtain ⟨u79, hinv⟩ := hinv
    obtain ⟨u80, hinv⟩ := hinv
    obtain ⟨u81, hinv⟩ := hinv
    obtain ⟨u82, hinv⟩ := hinv
    obtain ⟨u83, hinv⟩ := hinv
    obtain ⟨u84, hinv⟩ := hinv
    obtain ⟨u85, hinv⟩ := hinv
    obtain ⟨u86, hinv⟩ := hinv
    obtain ⟨u87, hinv⟩ := hinv
    obtain ⟨u88, hinv⟩ := hinv
    obtain ⟨u89, hinv⟩ := hinv
    obtain ⟨u90, hinv⟩ := hinv
    obtain ⟨u91, hinv⟩ := hinv
    obtain ⟨u92, hinv⟩ := hinv
    obtain ⟨u93, hinv⟩ := hinv
    obtain ⟨u94, hinv⟩ := hinv
    obtain ⟨u95, hinv⟩ := hinv
    obtain ⟨u96, hinv⟩ := hinv
    obtain ⟨u97, hinv⟩ := hinv
    obtain ⟨u98, hinv⟩ := hinv
    obtain ⟨u99, hinv⟩ := hinv
    obtain ⟨u100, hinv⟩ := hinv
    obtain ⟨u101, hinv⟩ := hinv
    obtain ⟨u102, hinv⟩ := hinv
    obtain ⟨u103, hinv⟩ := hinv
    obtain ⟨u104, hinv⟩ := hinv
    obtain ⟨u105, hinv⟩ := hinv
    obtain ⟨u106, hinv⟩ := hinv
    obtain ⟨u107, hinv⟩ := hinv
    obtain ⟨u108, hinv⟩ := hinv
    obtain ⟨u109, hinv⟩ := hinv
    obtain ⟨u110, hinv⟩ := hinv
    obtain ⟨u111, hinv⟩ := hinv
    obtain ⟨u112, hinv⟩ := hinv
    obtain ⟨u113, hinv⟩ := hinv
    obtain ⟨rfl, hds, HI⟩ := hinv
    clear HAT
    have hfd := field_fr
    dsimp only [nodC] at hz
    go_wp2_with fail
    go_loopw [81] (fun i wr => ∃ j : Nat, j ≤ many ∧ i = .int .i64 j ∧ Hid (NodeAt wr b5 (backs Lk.fr (0, 0) σ.bef σ.at_ j) ∧ HoleL [b5] W1.heap.size W1 wr)) (fun i _ => 60 - (intOf i).toNat)
    case atStart => exact ⟨0, Nat.zero_le _, rfl, Lib.hid ⟨HI.out.1.a5, HoleL.refl _ _ _⟩⟩
    case round =>
      obtain ⟨j, hj, rfl, HJ⟩ := hrel
      obtain ⟨wo, rfl⟩ : ∃ wo : World, wo = wr := ⟨_, rfl⟩
      by_cases hlt : j < many
      · have hlti : (j : Int) < (many : Int) := by omega
        have j0 : (0 : Int) ≤ (j : Int) := by omega
        have j12 : (j : Int) < 12 := by have := HMN.out.2; omega
        obtain ⟨v, hv⟩ : ∃ v, v = backs Lk.fr (0, 0) σ.bef σ.at_ j := ⟨_, rfl⟩
        have hn := HJ.out.1
        rw [← hv] at hn
        have e3 : wo.cell? ⟨b3, 0, none⟩ = some (.map (some Mb)) := by
          rw [HJ.out.2.cell (cell_size HI.out.1.c3) (by simp; exact HNE.out.n35)]; exact HI.out.1.c3
        have hbf : BefAt wo Mb σ.bef := MapAt.of_heap HI.out.1.bef (HJ.out.2.block Mb (MapAt.lt HI.out.1.bef) (by simp; exact Ne.symm HNE.out.n5Mb))
        have okv : okN v := by rw [hv]; exact HI.out.2.2.backs HI.out.2.2.node _
        have hlk := (hbf.look okv).1
        obtain ⟨x, hx⟩ : ∃ x, x = (σ.bef v).getD lk0 := ⟨_, rfl⟩
        rw [← hx] at hlk
        have hnx : backs Lk.fr (0, 0) σ.bef σ.at_ (j + 1) = x.fr := by rw [backs, ← hv, hx]; exact (back_get _ _).symm
        obtain ⟨v1, v2⟩ := v
        obtain ⟨⟨f1, f2⟩, ⟨t1, t2⟩, wr_, rm, cl, sg⟩ := x
        dsimp only [nodeV, lkV, lkC] at hlk hnx
        have d0 := hn.c0
        have d1 := hn.c1
        have g0 := hn.free 0
        have g1 := hn.free 1
        dsimp only at d0 d1
        have hs5 := hn.set (f1, f2)
        have HNX := Lib.hid (And.intro hnx hs5)
        clear hn hv hbf okv hx hnx hs5
        go_wp2_with fail
        go_roundw
        case rel => exact ⟨j + 1, by omega, by go_num, Lib.hid ⟨by rw [HNX.out.1]; exact HNX.out.2, (HJ.out.2.set (.inl (by simp)) _).set (.inl (by simp)) _⟩⟩
        case measure => simp [intOf]; omega
      · have hnl : ¬ (j : Int) < (many : Int) := by omega
        obtain ⟨e, he⟩ : ∃ e, e = backs Lk.fr (0, 0) σ.bef σ.at_ many := ⟨_, rfl⟩
        have hn := HJ.out.1
        rw [show j = many by omega, ← he] at hn
        have oke : okN e := by rw [he]; exact HI.out.2.2.backs HI.out.2.2.node _
        have HC : Hid (circleS s.sh t = collect Lk.fr (0, 0) lk0 σ.bef many e (many + 1) e []) := Lib.hid (by
          unfold circleS
          rw [HI.out.2.1]
          simp only [Bool.false_eq_true, if_false]
          rw [HMN.out.1, ← he])
        clear he
        obtain ⟨v1, v2⟩ := e
        have d0 := hn.c0
        have d1 := hn.c1
        dsimp only at d0 d1
        obtain ⟨W2_, hW2_⟩ : ∃ W2_, W2_ = wo.alloc (.cells #[.int .i64 v1, .int .i64 v2] 92) := ⟨_, rfl⟩
        have hb2 : Below wo.heap.size wo W2_ := by rw [hW2_]; exact (Below.refl _ _).alloc (Nat.le_refl _) _
        have hE2 : NodeAt W2_ wo.heap.size (v1, v2) := by rw [hW2_]; exact heap_alloc_last _ _
        have HA2 : Hid (NodeAt W2_ b5 (v1, v2) ∧ HoleL [b5] W1.heap.size W1 W2_ ∧ b5 < wo.heap.size ∧ wo.heap.size < W2_.heap.size) := Lib.hid ⟨hn.of_heap (hb2.block _ (heap_lt hn)), HJ.out.2.trans (HoleL.of_below hb2 (Nat.le_refl _)) HJ.out.2.size, heap_lt hn, heap_lt hE2⟩
        have HE2 := Lib.hid hE2
        have HO := Lib.hid oke
        clear hn hb2 hE2 oke HJ
        go_wp2_with fail
        rw [← hW2_]
        clear hW2_ d0 d1
        obtain ⟨bE0, hbE0⟩ : ∃ b, b = wo.heap.size := ⟨_, rfl⟩
        rw [← hbE0] at HA2 HE2 ⊢
        clear hbE0
        go_loopg [10, 11] (many + 1) (fun k v10 v11 wr => ∃ bE : Nat, v11 = .pointer (some ⟨bE, 0, none⟩) ∧ Hid (∃ (v : Int × Int) (out : List Lk), circleS s.sh t = collect Lk.fr (0, 0) lk0 σ.bef many (v1, v2) k v out ∧ NodeAt wr b5 v ∧ NodeAt wr bE (v1, v2) ∧ bE ≠ b5 ∧ HoleL [b5] W2_.heap.size W2_ wr ∧ okN v ∧ out.length + k = many + 1 ∧ out.length ≤ many ∧
          wr.ownsRow W2_.heap.size 114 8 v10 out.length (lksC out)))
        case atStart => exact ⟨bE0, rfl, Lib.hid ⟨(v1, v2), [], HC.out, HA2.out.1, HE2.out, by have := HA2.out.2.2.1; omega, HoleL.refl _ _ _, HO.out, by simp, Nat.zero_le _, ⟨rfl, .inl ⟨rfl, rfl⟩⟩⟩⟩
        case round =>
          obtain ⟨bE, rfl, HJ⟩ := hrel
          obtain ⟨wo', rfl⟩ : ∃ wo' : World, wo' = wr := ⟨_, rfl⟩
          obtain ⟨v, out, hC, h5, hE, hbE, hO, okv, hlen, hmx, hown⟩ := HJ.out
          obtain ⟨k, rfl⟩ : ∃ k, gk = k + 1 := ⟨gk - 1, by omega⟩
          obtain ⟨A, c, rfl⟩ := own_opened hown
          obtain ⟨hol, hnc, hnone, hold⟩ := own_lks hown
          obtain ⟨n, hn⟩ : ∃ n, n = out.length := ⟨_, rfl⟩
          have hH : HoleL [b5] W1.heap.size W1 wo' := HA2.out.2.1.trans hO HA2.out.2.1.size
          have e3 : wo'.cell? ⟨b3, 0, none⟩ = some (.map (some Mb)) := by
            rw [hH.cell (cell_size HI.out.1.c3) (by simp; exact HNE.out.n35)]; exact HI.out.1.c3
          have hbf : BefAt wo' Mb σ.bef := MapAt.of_heap HI.out.1.bef (hH.block Mb (MapAt.lt HI.out.1.bef) (by simp; exact Ne.symm HNE.out.n5Mb))
          have hlk := (hbf.look okv).1
          obtain ⟨x, hx⟩ : ∃ x, x = (σ.bef v).getD lk0 := ⟨_, rfl⟩
          rw [← hx] at hlk
          have hnx : back Lk.fr (0, 0) σ.bef v = x.fr := by rw [hx]; exact (back_get _ _).symm
          have okx : okN x.fr := by rw [hx]; exact (HI.out.2.2.get v).fr
          obtain ⟨va, vb⟩ := v
          obtain ⟨⟨f1, f2⟩, ⟨t1, t2⟩, wr_, rm, cl, sg⟩ := x
          dsimp only [nodeV, lkV, lkC] at hlk hnx
          have d0 := h5.c0
          have d1 := h5.c1
          dsimp only at d0 d1
          rw [← hn] at hown hnc hnone hol ⊢
          obtain ⟨il, hil, hl0, hl1, hl2⟩ := info_parts infoLk
          have hcut := fun W => run_cut3 (P := Tryd.prog) W 106 114 Tryd.underlying106 hil A n c hnc
          have n12 : (n : Int) ≤ 12 := by have := HMN.out.2; omega
          obtain ⟨Wx, hWx⟩ : ∃ Wx, Wx = wo'.alloc (.cells #[.int .i64 f1, .int .i64 f2, .int .i64 t1, .int .i64 t2, .int .i64 wr_, .int .i64 rm, .int .i64 cl, .int .i64 sg] 114) := ⟨_, rfl⟩
          have hbx : Below wo'.heap.size wo' Wx := by rw [hWx]; exact (Below.refl _ _).alloc (Nat.le_refl _) _
          have hX0 : Wx.heap[wo'.heap.size]? = some (.cells #[.int .i64 f1, .int .i64 f2, .int .i64 t1, .int .i64 t2, .int .i64 wr_, .int .i64 rm, .int .i64 cl, .int .i64 sg] 114 (0, 0)) := by rw [hWx]; exact heap_alloc_last _ _
          have HJ2 := Lib.hid (And.intro hC (And.intro h5 (And.intro hE (And.intro hO (And.intro hown (And.intro hold (And.intro hnone (And.intro hol (And.intro hn (And.intro hx (And.intro hnx okx)))))))))))
          have HB2 := Lib.hid (And.intro hbx (And.intro hX0 (And.intro hbE (And.intro hlen hmx))))
          obtain ⟨bX, hbX⟩ : ∃ b, b = wo'.heap.size := ⟨_, rfl⟩
          have HBX := Lib.hid hbX
          clear hC h5 hE hO hown hold hnone hol hx hnx okx hbx hbE hlen hmx hn hbf hH hil hl0 hl1 hl2 okv
          go_upto_region 24 with fail
          rw [← hWx, ← hbX]
          rw [← hbX] at hX0
          clear hWx d0 d1 e3 hlk hbX
          have hS : (fun w' : World => w'.cell? ⟨bX, 0, none⟩ = some (.int .i64 f1) ∧ w'.cell? ⟨bX, 1, none⟩ = some (.int .i64 f2) ∧ w'.cell? ⟨bX, 2, none⟩ = some (.int .i64 t1) ∧ w'.cell? ⟨bX, 3, none⟩ = some (.int .i64 t2) ∧
              w'.cell? ⟨bX, 4, none⟩ = some (.int .i64 wr_) ∧ w'.cell? ⟨bX, 5, none⟩ = some (.int .i64 rm) ∧ w'.cell? ⟨bX, 6, none⟩ = some (.int .i64 cl) ∧ w'.cell? ⟨bX, 7, none⟩ = some (.int .i64 sg)) Wx.drew := by
            have hc : ∀ j, Wx.drew.cell? ⟨bX, j, none⟩ = _ := fun j => cell_of_row Wx bX j _ _ _ hX0
            refine ⟨?_, ?_, ?_, ?_, ?_, ?_, ?_, ?_⟩ <;> exact hc _
          obtain ⟨SS, hSS⟩ : ∃ SS : World → Prop, SS = fun w' : World => w'.cell? ⟨bX, 0, none⟩ = some (.int .i64 f1) ∧ w'.cell? ⟨bX, 1, none⟩ = some (.int .i64 f2) ∧ w'.cell? ⟨bX, 2, none⟩ = some (.int .i64 t1) ∧ w'.cell? ⟨bX, 3, none⟩ = some (.int .i64 t2) ∧
              w'.cell? ⟨bX, 4, none⟩ = some (.int .i64 wr_) ∧ w'.cell? ⟨bX, 5, none⟩ = some (.int .i64 rm) ∧ w'.cell? ⟨bX, 6, none⟩ = some (.int .i64 cl) ∧ w'.cell? ⟨bX, 7, none⟩ = some (.int .i64 sg) := ⟨_, rfl⟩
          have hSk : ∀ (Y Z : World), SS Y → Below Y.heap.size Y Z → SS Z := fun Y Z hY hb => by
            rw [hSS] at hY ⊢
            obtain ⟨z0, z1, z2, z3, z4, z5, z6, z7⟩ := hY
            exact ⟨held_now hb z0, held_now hb z1, held_now hb z2, held_now hb z3, held_now hb z4, held_now hb z5, held_now hb z6, held_now hb z7⟩
          rw [← hSS] at hS
          have HSS := Lib.hid hSS
          have HSK := Lib.hid hSk
          clear hSS hSk hX0
          refine wp_calm ?_
          refine wp_region_held_list (k := 10) rfl SS (by kernel_rfl) ?_
          obtain ⟨Wy, hWy⟩ : ∃ Wy, Wy = Wx.drew := ⟨_, rfl⟩
          have HY : Hid (Below Wx.heap.size Wx Wy) := Lib.hid (by rw [hWy]; exact (Below.refl _ _).drew)
          rw [← hWy] at hS ⊢
          clear hWy
          refine tk 0 (.slice A n c) rfl (fun w' hw' => by go_simp) hS ?_
          refine tk 1 (.slice A n c) rfl (fun w' hw' => by go_simp) hS ?_
          refine tk 2 (.int .i64 (n : Int)) rfl (fun w' hw' => by go_simp) hS ?_
          refine tk 3 (.slice A n c) rfl (fun w' hw' => by go_simp) hS ?_
          (try simp only [Act.put, List.setIfInBounds_toArray, List.set_cons_zero, List.set_cons_succ])
          refine tk 4 (.int .i64 (n : Int)) rfl (fun w' hw' => by go_simp) hS ?_
          refine tk 5 (.slice A n n) rfl (fun w' hw' => by go_simp) hS ?_
          refine tk 6 (.agg #[.int .i64 f1, .int .i64 f2, .int .i64 t1, .int .i64 t2, .int .i64 wr_, .int .i64 rm, .int .i64 cl, .int .i64 sg]) rfl (fun w' hw' => by rw [HSS.out] at hw'; obtain ⟨z0, z1, z2, z3, z4, z5, z6, z7⟩ := hw'; go_simp) hS ?_
          refine step_list (i := 7) (by kernel_rfl) rfl (by rfl) (fun K hK => ?_)
          go_simp
          obtain ⟨Wz, hWz⟩ : ∃ Wz, Wz = Wy.alloc (.cells #[.int .i64 f1, .int .i64 f2, .int .i64 t1, .int .i64 t2, .int .i64 wr_, .int .i64 rm, .int .i64 cl, .int .i64 sg] 114) := ⟨_, rfl⟩
          have hyz : Below Wy.heap.size Wy Wz := by rw [hWz]; exact (Below.refl _ _).alloc (Nat.le_refl _) _
          have hz0 : Wz.heap[Wy.heap.size]? = some (.cells (lksC [⟨(f1, f2), (t1, t2), wr_, rm, cl, sg⟩]).toArray 114 (0, 0)) := by rw [hWz]; exact heap_alloc_last _ _
          rw [← hWz]
          clear hWz
          refine hK _ _ (HSK.out _ _ hS hyz) ?_
          clear hK K
          (try simp only [Act.put, List.setIfInBounds_toArray, List.set_cons_zero, List.set_cons_succ])
          refine step_list (i := 8) (by kernel_rfl) rfl (by rfl) (fun K hK => ?_)
          have hxz : Below wo'.heap.size wo' Wz := HB2.out.1.trans ((HY.out.trans (hyz.mono HY.out.size)).mono HB2.out.1.size)
          refine wp_push_lk rfl (.tmp 97) (.tmp 99) rfl A n out ⟨(f1, f2), (t1, t2), wr_, rm, cl, sg⟩ rfl HJ2.out.2.2.2.2.2.2.2.2.1.symm (fun e => (HJ2.out.2.2.2.2.2.2.1 e).1) (fun b e j u hu => held_now hxz (HJ2.out.2.2.2.2.2.1 b e j u hu)) ⟨Wy.heap.size, 0, none⟩ rfl (cells_of_row hz0) (by omega) ?_
          intro A' c' Wt hown' hg'
          have hzt := below_of_grown hg'
          have hrx : Wt.heap[bX]? = some (.cells #[.int .i64 f1, .int .i64 f2, .int .i64 t1, .int .i64 t2, .int .i64 wr_, .int .i64 rm, .int .i64 cl, .int .i64 sg] 114 (0, 0)) := by
            have h1 := HB2.out.2.1
            rw [← HBX.out] at h1
            have hb := (HY.out.trans (hyz.mono HY.out.size)).trans (hzt.mono (Nat.le_trans HY.out.size hyz.size))
            exact (hb.block _ (heap_lt h1)).trans h1
          have HT2 := Lib.hid (And.intro hown' (And.intro (hxz.trans (hzt.mono hxz.size)) (And.intro hxz.size hrx)))
          refine hK _ _ (HSK.out _ _ (HSK.out _ _ hS hyz) hzt) ?_
          clear hK K
          (try simp only [Act.put, List.setIfInBounds_toArray, List.set_cons_zero, List.set_cons_succ])
          refine step_list (i := 9) (by kernel_rfl) rfl (by rfl) (fun K hK => ?_)
          go_simp
          refine hK _ _ (HSK.out _ _ (HSK.out _ _ hS hyz) hzt) ?_
          clear hK K
          (try simp only [Act.put, List.setIfInBounds_toArray, List.set_cons_zero, List.set_cons_succ])
          refine wpAnyH_done (by kernel_rfl) ?_ _
          clear hxz hzt hyz hz0 hS hown' hg' hrx HSK HSS SS hcut
          refine wp_back ?_
          have hT := HT2.out
          have hx5 : NodeAt Wt b5 (va, vb) := HJ2.out.2.1.of_heap (hT.2.1.block _ (heap_lt HJ2.out.2.1))
          have hxE : NodeAt Wt bE (v1, v2) := HJ2.out.2.2.1.of_heap (hT.2.1.block _ (heap_lt HJ2.out.2.2.1))
          have hs5 := hx5.set (f1, f2)
          have k0 := hx5.c0
          have k1 := hx5.c1
          have g0 := hx5.free 0
          have g1 := hx5.free 1
          have y0 : Wt.cell? ⟨bX, 0, none⟩ = some (.int .i64 f1) := by rw [cell_of_row _ _ _ _ _ _ hT.2.2.2]; rfl
          have y1 : Wt.cell? ⟨bX, 1, none⟩ = some (.int .i64 f2) := by rw [cell_of_row _ _ _ _ _ _ hT.2.2.2]; rfl
          obtain ⟨Wu, hWu⟩ : ∃ Wu, Wu = (Wt.setCell ⟨b5, 0, none⟩ (.int .i64 f1)).setCell ⟨b5, 1, none⟩ (.int .i64 f2) := ⟨_, rfl⟩
          dsimp only at k0 k1 hs5
          rw [← hWu] at hs5
          have hsE : NodeAt Wu bE (v1, v2) := by rw [hWu]; exact heap_far (heap_far hxE HB2.out.2.2.1 _) HB2.out.2.2.1 _
          have hHU : HoleL [b5] W2_.heap.size W2_ Wu := by rw [hWu]; exact (((HJ2.out.2.2.2.1.trans (HoleL.of_below hT.2.1 (Nat.le_refl _)) HJ2.out.2.2.2.1.size).set (.inl (by simp)) _).set (.inl (by simp)) _)
          have hOU : Wu.ownsRow W2_.heap.size 114 8 (.slice A' (n + 1) c') (n + 1) (lksC (out ++ [⟨(f1, f2), (t1, t2), wr_, rm, cl, sg⟩])) := by
            rw [hWu]
            have h5l : b5 < W2_.heap.size := by have := HA2.out.2.2; omega
            exact own_setFar (own_setFar (own_lower hT.1 (Nat.le_trans HJ2.out.2.2.2.1.size hT.2.2.1)) h5l _) h5l _
          have HFU : Hid (AtC w B Tb b1 b3 b5 M Mb s t ⟨σ.far, σ.bef, (f1, f2), 0⟩ rs Wu ∧ Wu.ownsRow W2_.heap.size 114 8 (.slice A' (n + 1) c') (n + 1) (lksC (out ++ [⟨(f1, f2), (t1, t2), wr_, rm, cl, sg⟩])) ∧ HoleL [b5] W2_.heap.size W2_ Wu ∧ NodeAt Wu b5 (f1, f2) ∧ NodeAt Wu bE (v1, v2)) :=
            Lib.hid ⟨HI.out.1.node HNE.out HW.out.1 HW.out.2.1 HW.out.2.2 (HA2.out.2.1.trans hHU HA2.out.2.1.size) hs5, hOU, hHU, hs5, hsE⟩
          have u0 := hs5.c0
          have u1 := hs5.c1
          have e0 := hsE.c0
          have e1 := hsE.c1
          dsimp only at u0 u1 e0 e1
          have hstep : collect Lk.fr (0, 0) lk0 σ.bef many (v1, v2) (k + 1) (va, vb) out = if ((f1, f2) : Int × Int) = (v1, v2) ∨ many < n + 1 then out ++ [⟨(f1, f2), (t1, t2), wr_, rm, cl, sg⟩] else collect Lk.fr (0, 0) lk0 σ.bef many (v1, v2) k (f1, f2) (out ++ [⟨(f1, f2), (t1, t2), wr_, rm, cl, sg⟩]) := by
            rw [collect, HJ2.out.2.2.2.2.2.2.2.2.2.2.1, ← HJ2.out.2.2.2.2.2.2.2.2.2.1]
            have : (out ++ [(⟨(f1, f2), (t1, t2), wr_, rm, cl, sg⟩ : Lk)]).length = n + 1 := by simp; exact HJ2.out.2.2.2.2.2.2.2.2.1.symm
            rw [this]
          have HST := Lib.hid hstep
          clear hT hx5 hxE hs5 hsE hHU hOU hstep
          go_upto_region 26 with fail
          rw [← hWu]
          clear hWu k0 k1 g0 g1 y0 y1
          by_cases ge : ((f1, f2) : Int × Int) = (v1, v2)
          · have heq : ∀ W, (binOp .eql 92 (.agg #[.int .i64 f1, .int .i64 f2]) (.agg #[.int .i64 v1, .int .i64 v2])).run Tryd.prog W = .ok (.bool true) W := fun W => by
              rw [eql_node]; simp only [Prod.mk.injEq] at ge; rw [decide_eq_true ge.1, decide_eq_true ge.2]; rfl
            have HRES : Hid (circleS s.sh t = out ++ [⟨(f1, f2), (t1, t2), wr_, rm, cl, sg⟩]) := Lib.hid (by rw [HJ2.out.1, HST.out, if_pos (.inl ge)])
            clear ge
            go_wp2_with fail
            show LeavesInM Fence.wide 9 Tryd.prog Tryd.f79 _ _ ds .returning Wu
            rw [hds]
            refine leaves_marks (.slice A' (n + 1) c') rs Wu HFU.out.1.nd (fun r hr => (HFU.out.1.marks r hr).2) fun W'' hk ho ht hu hs => ⟨by rw [results_tmp (t := 2) rfl]; rfl, ?_⟩
            obtain ⟨l0, l1, l2, l3⟩ := HFU.out.1.leave HW.out.1 HW.out.2.1 HW.out.2.2 hk ho ht hu hs
            refine ⟨_, M, rfl, ?_, l1, HNE.out.lM, ?_, l3⟩
            · have hlen : (circleS s.sh t).length = n + 1 := by rw [HRES.out]; simp; exact HJ2.out.2.2.2.2.2.2.2.2.1.symm
              rw [hlen, HRES.out]
              exact own_lower (own_kept HFU.out.2.1 l0) (by have h1 := HA2.out.2.1.size; have h2 := HI.out.1.hole.size; omega)
            · rw [HI.out.2.1]; exact l2
          · have heq : ∀ W, (binOp .eql 92 (.agg #[.int .i64 f1, .int .i64 f2]) (.agg #[.int .i64 v1, .int .i64 v2])).run Tryd.prog W = .ok (.bool false) W := fun W => by
              rw [eql_node]
              by_cases h1 : f1 = v1
              · have h2 : ¬ f2 = v2 := fun h => ge (by rw [h1, h])
                rw [decide_eq_false h2, Bool.and_false]
              · rw [decide_eq_false h1, Bool.false_and]
            by_cases gm : many < n + 1
            · have gmi : (many : Int) < (n : Int) + 1 := by omega
              have HRES : Hid (circleS s.sh t = out ++ [⟨(f1, f2), (t1, t2), wr_, rm, cl, sg⟩]) := Lib.hid (by rw [HJ2.out.1, HST.out, if_pos (.inr gm)])
              clear ge gm
              go_wp2_with fail
              show LeavesInM Fence.wide 9 Tryd.prog Tryd.f79 _ _ ds .returning Wu
              rw [hds]
              refine leaves_marks (.slice A' (n + 1) c') rs Wu HFU.out.1.nd (fun r hr => (HFU.out.1.marks r hr).2) fun W'' hk ho ht hu hs => ⟨by rw [results_tmp (t := 2) rfl]; rfl, ?_⟩
              obtain ⟨l0, l1, l2, l3⟩ := HFU.out.1.leave HW.out.1 HW.out.2.1 HW.out.2.2 hk ho ht hu hs
              refine ⟨_, M, rfl, ?_, l1, HNE.out.lM, ?_, l3⟩
              · have hlen : (circleS s.sh t).length = n + 1 := by rw [HRES.out]; simp; exact HJ2.out.2.2.2.2.2.2.2.2.1.symm
                rw [hlen, HRES.out]
                exact own_lower (own_kept HFU.out.2.1 l0) (by have h1 := HA2.out.2.1.size; have h2 := HI.out.1.hole.size; omega)
              · rw [HI.out.2.1]; exact l2
            · have gmi : ¬ (many : Int) < (n : Int) + 1 := by omega
              have HRES : Hid (circleS s.sh t = collect Lk.fr (0, 0) lk0 σ.bef many (v1, v2) k (f1, f2) (out ++ [⟨(f1, f2), (t1, t2), wr_, rm, cl, sg⟩]) ∧ n + 1 ≤ many) := Lib.hid ⟨by rw [HJ2.out.1, HST.out, if_neg (by rintro (h | h); exact ge h; exact gm h)], by omega⟩
              clear ge gm
              go_wp2_with fail
              go_roundg k
              case measure => omega
              case rel =>
                have hbN : Below Wu.heap.size Wu (Wu.alloc (.cells #[.int .i64 v1, .int .i64 v2] 92)) := (Below.refl _ _).alloc (Nat.le_refl _) _
                obtain ⟨f1', f2', f3', f4', f5'⟩ := HFU.out
                refine ⟨Wu.heap.size, rfl, Lib.hid ⟨(f1, f2), out ++ [⟨(f1, f2), (t1, t2), wr_, rm, cl, sg⟩], HRES.out.1, f4'.of_heap (hbN.block _ (heap_lt f4')), heap_alloc_last _ _, by have := heap_lt f4'; omega, f3'.trans (HoleL.of_below hbN (Nat.le_refl _)) f3'.size, HJ2.out.2.2.2.2.2.2.2.2.2.2.2, ?_, ?_, ?_⟩⟩
                · have h1 := HB2.out.2.2.2.1
                  simp; omega
                · have h1 := HRES.out.2
                  have h2 := HJ2.out.2.2.2.2.2.2.2.2.1
                  simp; omega
                · have h2 := HJ2.out.2.2.2.2.2.2.2.2.1
                  have : (out ++ [(⟨(f1, f2), (t1, t2), wr_, rm, cl, sg⟩ : Lk)]).length = n + 1 := by simp; omega
                  rw [this]
                  exact pw_own_below f2' hbN
end Go.Proofs.YtcbhnhoicecnnaaDoor.Hand
namespace Go.Proofs.YtcbhnhoicecnnaaDoor.Hand
set_option linter.unusedVariables false
set_option linter.unusedSimpArgs false
open Go.RowKit Go.Shelf Go.Maps Go.Proofs.YtcbhnhoicecnnaaDoorW.PrintWords Go.Proofs.YtcbhnhoicecnnaaDoorW.PrintLast Go.Proofs.YtcbhnhoicecnnaaDoorW.PrintMore Go.Proofs.YtcbhnhoicecnnaaDoor.PrK
theorem tok_in {s : ShM} {t : List Int} (hS : s.Ok) (h : InL s.sh t) : TOk s t := by
  have hl : t.length = s.l0.length * s.l1.length := by
    have h1 := hS.len
    have h2 := h.1
    rw [h2, h1]
    simp [ShM.sh, shL]
  refine ⟨hS, hl, fun i hi => ?_⟩
  have hi' : i < s.sh.cs.length := by rw [← h.1]; exact hi
  have h1 := h.2 i hi'
  have h2 := hS.hc i hi'
  obtain ⟨a, b, c⟩ := h2
  omega
theorem circ_fine {S : Sh} (hS : S.Ok) {t : List Int} (ht : InL S t) : (circleS S t).length ≤ 12 ∧ ∀ x ∈ circleS S t, x ∈ linksL S (tat t) ∧ x.cell < (t.length : Int) := by
  by_cases h : circleS S t = []
  · rw [h]; exact ⟨by simp, fun x hx => by cases hx⟩
  · obtain ⟨ks, e, hc, hr, -⟩ := circle_some hS h
    refine ⟨?_, fun x hx => ?_⟩
    · unfold circleS at h ⊢
      cases hf : findS S t with
      | mk b σ =>
        cases b with
        | true => simp
        | false =>
          have hb := search_circle (fr := Lk.fr) («to_» := Lk.to_) (wr := Lk.wr) (live_apart hS) (nodesS S) (live_nodes hS) (manyS S) (by simp [nodesS, manyS]) (0, 0) (0, 0) lk0 σ hf (k := manyS S + 1) (by omega)
          simp only [Bool.false_eq_true, if_false]
          have h1 := nodup_le _ (nodesS S) hb.nodup (fun x hx => by
            obtain ⟨y, hy, rfl⟩ := List.mem_map.1 hx
            exact live_nodes hS y (hb.sub y hy))
          rw [List.length_map] at h1
          have h2 : (nodesS S).length = manyS S := by simp [nodesS, manyS]
          have := hS.n5
          have := hS.m5
          unfold manyS Sh.n Sh.m at h2
          unfold manyS Sh.n Sh.m at h1 ⊢
          omega
    · rw [← e] at hx
      obtain ⟨k, hk, rfl⟩ := List.mem_map.1 hx
      have his := hc.is k hk
      refine ⟨(links_kind hS).2 ⟨k, his, rfl⟩, ?_⟩
      have hl : t.length = S.cs.length := ht.1
      cases k with
      | fw o p => have := cell_lt S hS.len his.1 his.2; simp only [lkOf, Kn.cell]; omega
      | bk o p => have := cell_lt S hS.len his.1 his.2; simp only [lkOf, Kn.cell]; omega
      | _ => simp only [lkOf, Kn.cell]; omega
theorem mend_step {S : Sh} (hS : S.Ok) {t : List Int} (ht : InL S t) (h : circleS S t ≠ []) : InL S (changeL t (circleS S t)) ∧ wrongS S (tat (changeL t (circleS S t))) + 1 ≤ wrongS S (tat t) := by
  obtain ⟨ks, e, hc, hr, hn⟩ := circle_some hS h
  obtain ⟨h1, h2, -, h4, -⟩ := change_circ hS ht hc hr
  rw [← e]
  refine ⟨h1, ?_⟩
  have h5 : roomOf (ks.map (lkOf S (tat t))) * (ks.map (Kn.wr S (tat t))).sum ≤ roomOf (ks.map (lkOf S (tat t))) * -1 := Int.mul_le_mul_of_nonneg_left (by omega) (by omega)
  omega
theorem tat_bd {S : Sh} (hS : S.Ok) {t : List Int} (ht : InL S t) (i : Nat) : -1000 ≤ tat t i ∧ tat t i ≤ 1000 := by
  by_cases h : i < t.length
  · have h' : i < S.cs.length := by rw [← ht.1]; exact h
    have h1 := ht.2 i h'
    obtain ⟨a, b, c⟩ := hS.hc i h'
    omega
  · unfold tat
    rw [List.getD_eq_getElem?_getD, List.getElem?_eq_none (by omega)]; simp
set_option maxHeartbeats 4000000 in
set_option maxRecDepth 100000 in
theorem mend_any (B Tb : Nat) (s : ShM) (fv : Value) (t : List Int) (w : World) (h : BookAt w B Tb s fv t) (hS : s.Ok) (hin : InL s.sh t) (hwr : wrongS s.sh (tat t) + 11000 < wrongS s.sh (tat (leastT s.sh)) + 20000) (w00 : World) (hv : VarsAt w00) (hr : ShR w00 s) (hw0 : Below w00.heap.size w00 w) (hwB : w00.heap.size ≤ B ∧ w00.heap.size ≤ Tb) :
    Calls Tryd.prog 59 #[.pointer (some ⟨B, 0, none⟩)] w fun e w' => e = .returned (.tuple #[]) ∧ ∃ M, BookAt w' B Tb s (.map (some M)) (mendL s.sh 20000 t) ∧ FarAt w' M (findS s.sh (mendL s.sh 20000 t)).2.far ∧ w.heap.size ≤ M ∧ HoleL [B, Tb] w.heap.size w w' := by
  have HB := Lib.hid (And.intro h (And.intro hin hwr))
  have HS := Lib.hid hS
  have HR := Lib.hid (And.intro hr (And.intro hw0 (And.intro hwB hv)))
  clear h hin hwr hS hr hw0 hwB hv
  go_enter Tryd.func59, Tryd.ntmps59
  go_wp2_with fail
  go_loopw [3] (fun i wr => ∃ j : Nat, j ≤ 20000 ∧ i = .int .i64 j ∧ Hid (∃ (fv' : Value) (tj : List Int), BookAt wr B Tb s fv' tj ∧ InL s.sh tj ∧ mendL s.sh (20000 - j) tj = mendL s.sh 20000 t ∧ wrongS s.sh (tat tj) + 11000 < wrongS s.sh (tat (leastT s.sh)) + ((20000 - j : Nat) : Int) ∧ HoleL [B, Tb] w.heap.size w wr)) (fun i _ => 30000 - (intOf i).toNat)
  case atStart => exact ⟨0, Nat.zero_le _, rfl, Lib.hid ⟨fv, t, HB.out.1, HB.out.2.1, rfl, HB.out.2.2, HoleL.refl _ _ _⟩⟩
  case round =>
    obtain ⟨j, hj, rfl, HJ⟩ := hrel
    obtain ⟨fv', tj, hb, hi, hm, hwr, hh⟩ := HJ.out
    have hlow := wrong_low HS.out hi.2
    have hlt : j < 20000 := by
      rcases Nat.lt_or_ge j 20000 with h | h
      · exact h
      · rw [show 20000 - j = 0 by omega] at hwr; omega
    have hlti : (j : Int) < 20000 := by omega
    have j0 : (0 : Int) ≤ (j : Int) := by omega
    obtain ⟨k, hk⟩ : ∃ k, 20000 - j = k + 1 := ⟨20000 - j - 1, by omega⟩
    have hwl : Below w00.heap.size w00 wr := HR.out.2.1.trans (hh.below HR.out.2.1.size (by simp; exact HR.out.2.2.1))
    have HC := Lib.hid (circle_any B Tb s fv' tj wr hb (tok_in HS.out hi) w00 HR.out.2.2.2 HR.out.1 hwl HR.out.2.2.1)
    have HI := Lib.hid (And.intro hi (And.intro (And.intro hm hk) (And.intro hwr (And.intro hh (And.intro (heap_lt hb.box) (heap_lt hb.tab))))))
    clear hb hi hm hwr hh hlow hwl hk
    by_cases hc : circleS s.sh tj = []
    · have HC0 := Lib.hid hc
      clear hc
      go_wp2_with (go_at_call 79; refine HC.out.mono ?_; rintro e w1 ⟨v, M, rfl, h1, h2⟩; rw [HC0.out] at h1; obtain ⟨A, c, rfl⟩ := own_opened h1; have H1 := Lib.hid h2; clear h1 h2)
      refine bodyPost_ret (results_none rfl _ _ _) rfl ⟨rfl, M, ?_⟩
      obtain ⟨g1, g2, g3, g4⟩ := H1.out
      have hme : mendL s.sh 20000 t = tj := by rw [← HI.out.2.1.1, HI.out.2.1.2, mendL, if_pos HC0.out]
      have hh := HI.out.2.2.2.1
      rw [hme]
      exact ⟨g1, g3, Nat.le_trans hh.size g2, hh.trans (g4.more (cs := [B, Tb]) (fun b hb => .inl (by simp at hb; simp [hb]))) hh.size⟩
    · have HC0 := Lib.hid hc
      have hn : ¬ (((circleS s.sh tj).length : Int) = 0) := fun h => hc (List.eq_nil_of_length_eq_zero (by omega))
      obtain ⟨n, hnn⟩ : ∃ n, n = (circleS s.sh tj).length := ⟨_, rfl⟩
      rw [← hnn] at hn
      have HN := Lib.hid hnn
      have gb : ((n : Int) == 0) = false := beq_eq_false_iff_ne.2 hn
      clear hc hnn
      go_wp2_with (first | (go_at_call 79; refine HC.out.mono ?_; rintro e w1 ⟨v, M, rfl, h1, h2⟩; rw [← HN.out] at h1; obtain ⟨A, c, rfl⟩ := own_opened h1; have H1 := Lib.hid (And.intro h1 h2); clear h1 h2))
      have hcf := circ_fine HS.out HI.out.1
      have hlow1 : Below w00.heap.size w00 w1 := by
        have hh := HI.out.2.2.2.1.trans (H1.out.2.2.2.2.more (cs := [B, Tb]) (fun b hb => .inl (by simp at hb; simp [hb]))) HI.out.2.2.2.1.size
        exact HR.out.2.1.trans (hh.below HR.out.2.1.size (by simp; exact HR.out.2.2.1))
      have HCH := Lib.hid (change_any B Tb s (.map (some M)) tj (circleS s.sh tj) (.slice A n c) wr.heap.size w1 H1.out.2.1 (by rw [← HN.out]; exact H1.out.1) (by have := HN.out; omega) ⟨HI.out.2.2.2.2.1, HI.out.2.2.2.2.2⟩ (by omega) (fun x hx => links_good (tok_in HS.out HI.out.1) x (hcf.2 x hx).1) (fun x hx => (hcf.2 x hx).2) (tat_bd HS.out HI.out.1) w00 HR.out.1 hlow1 HR.out.2.2.1)
      clear hcf hlow1
      go_wp2_with (first | (go_at_call 80; refine HCH.out.mono ?_; rintro e w2 ⟨rfl, h2⟩; have H2 := Lib.hid h2; clear h2))
      go_roundw
      case rel =>
        obtain ⟨s1, s2⟩ := mend_step HS.out HI.out.1 HC0.out
        obtain ⟨g1, g2⟩ := H2.out
        have hh := HI.out.2.2.2.1
        have h3 := hh.trans (H1.out.2.2.2.2.more (cs := [B, Tb]) (fun b hb => .inl (by simp at hb; simp [hb]))) hh.size
        have h4 := h3.trans (g2.more (cs := [B, Tb]) (fun b hb => .inl (by simp at hb; simp [hb]))) h3.size
        refine ⟨j + 1, by omega, by go_num, Lib.hid ⟨_, _, g1, s1, ?_, ?_, h4⟩⟩
        · rw [← HI.out.2.1.1, HI.out.2.1.2, mendL, if_neg HC0.out, show 20000 - (j + 1) = k by have := HI.out.2.1.2; omega]
        · have h5 := HI.out.2.2.1
          have h6 := HI.out.2.1.2
          omega
      case measure => simp [intOf]; omega
theorem search_ok {ls : List Lk} (hg : ∀ x ∈ ls, Good x) (hl : ls.length ≤ 72) : ∀ (k : Nat) {c : Int} {σ : Bf (Int × Int) Lk}, OkB c σ → OkB (c + 72 * ((k + 1 : Nat) : Int)) (searchB Lk.fr Lk.to_ Lk.wr ls k σ).2 := by
  have h1 : ∀ {c : Int} {σ : Bf (Int × Int) Lk}, OkB c σ → OkB (c + 72) (roundB Lk.fr Lk.to_ Lk.wr ls σ) := fun {c σ} h => by
    have := OkB.fold ls hg (c := c) (σ := ⟨σ.far, σ.bef, σ.at_, 0⟩) ⟨h.far, h.bef, h.node⟩
    exact this.mono (by omega)
  intro k
  induction k with
  | zero => intro c σ h; unfold searchB; exact (h1 h).mono (by simp)
  | succ k ih =>
    intro c σ h
    rw [searchB]
    split
    · exact (h1 h).mono (by push_cast; omega)
    · exact (ih (h1 h)).mono (by push_cast; omega)
theorem find_ok {s : ShM} {t : List Int} (ht : TOk s t) : OkB 1000 (findS s.sh t).2 := by
  have h := search_ok (ls := liveL s.sh (tat t)) (fun x hx => links_good ht x (List.mem_filter.1 hx).1) (Nat.le_trans (List.length_filter_le _ _) (links_len ht)) (manyS s.sh) okb0
  refine h.mono ?_
  have := ht.n5; have := ht.m5
  rw [manyS, ShM.len0, ShM.len1]
  push_cast; omega
def wtsO (far : Int × Int → Int) (k : Nat) : List Int := (List.range k).map fun i => far gateN - far (ownN' i)
def wtsP (far : Int × Int → Int) (n k : Nat) : List Int := wtsO far n ++ (List.range k).map fun i => far (pckN i) - far boomN
def wtsL (far : Int × Int → Int) (n m : Nat) : List Int := wtsP far n m ++ [far boomN - far gateN]
theorem wtsO_succ (far : Int × Int → Int) (k : Nat) : wtsO far (k + 1) = wtsO far k ++ [far gateN - far (ownN' k)] := by unfold wtsO; rw [List.range_succ, List.map_append]; rfl
theorem wtsP_succ (far : Int × Int → Int) (n k : Nat) : wtsP far n (k + 1) = wtsP far n k ++ [far (pckN k) - far boomN] := by unfold wtsP; rw [List.range_succ, List.map_append, ← List.append_assoc]; rfl
theorem wp_push_int {o : Oper} {a : Act} {w : World} {K : Act → World → Prop} {Q : Exit → Act → World → Prop} (_hg : o.guard = none) (s x : Operand)
    (hop : o.op = Op.call { callee := Callee.builtin Builtin.append, args := #[s, x], argTypes := #[35, 35] }) (base : Nat) (A : Option Addr) (c : Nat) (xs : List Int) (y : Int) {n : Nat} (hs : a.eval s = .slice A n c) (hown : w.ownsRow base 3 1 (.slice A n c) n (nums .i64 xs))
    (g : Nat) (hx : a.eval x = .slice (some ⟨g, 0, none⟩) 1 1) (hc : w.heap[g]? = some (.cells #[.int .i64 y] 3 (0, 0))) (hmax : xs.length < 1000) (hbase : base ≤ w.heap.size)
    (hK : ∀ A' c' w', w'.ownsRow base 3 1 (.slice A' (n + 1) c') (n + 1) (nums .i64 (xs ++ [y])) → w.grownBy w' (Value.ownBlock (.slice A n c)) → K (a.put o.dst (.slice A' (n + 1) c')) w') : o.wp Tryd.prog a w K Q := by
  obtain ⟨i0, hi, hz0, hz1, hz2⟩ := info_parts infoInt
  have hl : xs.length = n := by have := hown.1; simp [nums] at this; exact this
  refine wp_append_own w s x 35 hop base 3 i0 (.int .i64 0) 1 8 Tryd.underlying35 hi hz0 hz1 hz2 rfl (by decide) _ n (nums .i64 xs) hs hown ⟨g, 0, none⟩ 1 1 [.int .i64 y] hx rfl (cells_of_row (xs := [.int .i64 y]) hc) (by simp [Value.oneCell']) (by unfold maxLen; omega) (by omega) hbase ?_
  intro v' w' h1 h2 _
  obtain ⟨A', c', rfl⟩ := own_opened h1
  exact hK A' c' w' (by rw [show nums .i64 (xs ++ [y]) = nums .i64 xs ++ [.int .i64 y] by simp [nums]]; exact h1) h2
theorem below_own {w wr W W' : World} {e : TypeId} {A : Option Addr} {n c : Nat} {size : Nat} {xs : List Value} (h : wr.ownsRow w.heap.size e size (.slice A n c) n xs) (hb : Below w.heap.size w wr) (hS : Below wr.heap.size wr W) (hg : W.grownBy W' (Value.ownBlock (.slice A n c))) : Below w.heap.size w W' := by
  refine (hb.trans (hS.mono hb.size)).grown hg (by have := hb.size; have := hS.size; omega) fun j e => ?_
  rcases h.2 with ⟨hv, _⟩ | ⟨g, cap, cur, hv, hgb, _⟩
  · cases hv; cases e
  · cases hv; cases e; exact hgb
set_option maxHeartbeats 4000000 in
set_option maxRecDepth 100000 in
theorem weights_any (B Tb M : Nat) (s : ShM) (t : List Int) (far : Int × Int → Int) (w : World) (h : BookAt w B Tb s (.map (some M)) t) (hf : FarAt w M far) (hv : VarsAt w) (n5 : s.l0.length ≤ 5) (m5 : s.l1.length ≤ 5) (hfb : ∀ k, -1000 ≤ far k ∧ far k ≤ 1000) :
    Calls Tryd.prog 61 #[.pointer (some ⟨B, 0, none⟩)] w fun e w' => ∃ A c, e = .returned (.slice A (s.l0.length + s.l1.length + 1) c) ∧ w'.ownsRow w.heap.size 3 1 (.slice A (s.l0.length + s.l1.length + 1) c) (s.l0.length + s.l1.length + 1) (nums .i64 (wtsL far s.l0.length s.l1.length)) ∧ Below w.heap.size w w' := by
  have HB := Lib.hid (And.intro h (And.intro hf hv))
  have HL := Lib.hid (And.intro n5 m5)
  have HFB := Lib.hid hfb
  have hu1 := Tryd.underlying92
  have b0 := h.b0
  clear h hf hv n5 m5 hfb
  go_enter Tryd.func61, Tryd.ntmps61
  go_wp2_with fail
  clear b0
  go_loopw [3, 12] (fun v i wr => ∃ k : Nat, k ≤ s.l0.length ∧ i = .int .i64 k ∧ ∃ A c, v = .slice A k c ∧ Hid (wr.ownsRow w.heap.size 3 1 (.slice A k c) k (nums .i64 (wtsO far k)) ∧ Below w.heap.size w wr)) (fun _ i _ => 60 - (intOf i).toNat)
  case atStart => exact ⟨0, Nat.zero_le _, rfl, none, 0, rfl, Lib.hid ⟨⟨rfl, .inl ⟨rfl, rfl⟩⟩, Below.refl _ _⟩⟩
  case round =>
    obtain ⟨k, hk, rfl, A, c, rfl, HR⟩ := hrel
    have HF := Lib.hid (And.intro (HB.out.2.1.of_heap (HR.out.2.block M HB.out.2.1.lt)) (And.intro (HB.out.1.below HR.out.2) (HB.out.2.2.below HR.out.2)))
    by_cases hlt : k < s.l0.length
    · have hlti : (k : Int) < (s.l0.length : Int) := by omega
      have p0 : (0 : Int) ≤ (k : Int) := by omega
      have p5 : (k : Int) < 5 := by have := HL.out; omega
      have e6 := HF.out.2.1.b6
      have v0 := HF.out.2.2.g0
      have v1 := HF.out.2.2.g1
      obtain ⟨fg, hfg⟩ : ∃ x, x = far gateN := ⟨_, rfl⟩
      obtain ⟨fo, hfo⟩ : ∃ x, x = far (ownN' k) := ⟨_, rfl⟩
      obtain ⟨x1, x2⟩ := HFB.out gateN
      obtain ⟨x3, x4⟩ := HFB.out (ownN' k)
      rw [← hfg] at x1 x2
      rw [← hfo] at x3 x4
      have HFO := Lib.hid (And.intro hfg hfo)
      clear hfg hfo
      go_upto_region 5 with fail
      have hS : Below wr.heap.size wr wr.drew := (Below.refl _ _).drew
      refine wp_region_last_list (k := 18) rfl (fun w' => Below wr.heap.size wr w') [16, 17] (by kernel_rfl) ?_
      generalize wr.drew = w0 at hS ⊢
      refine take_listL (i := 0) (v := .slice A k c) rfl (by kernel_rfl) (by kernel_rfl) (by kernel_rfl) (by kernel_rfl) (by kernel_rfl) (fun _ _ _ h => h) (by rfl) (by intro w' hw'; go_simp) hS ?_
      (try simp only [Act.put, List.setIfInBounds_toArray, List.set_cons_zero, List.set_cons_succ])
      refine take_listL (i := 1) (v := .pointer (some ⟨B, 0, none⟩)) rfl (by kernel_rfl) (by kernel_rfl) (by kernel_rfl) (by kernel_rfl) (by kernel_rfl) (fun _ _ _ h => h) (by rfl) (by intro w' hw'; go_simp) hS ?_
      (try simp only [Act.put, List.setIfInBounds_toArray, List.set_cons_zero, List.set_cons_succ])
      refine take_listL (i := 2) (v := .pointer (some ⟨B, 0, none⟩)) rfl (by kernel_rfl) (by kernel_rfl) (by kernel_rfl) (by kernel_rfl) (by kernel_rfl) (fun _ _ _ h => h) (by rfl) (by intro w' hw'; go_simp) hS ?_
      (try simp only [Act.put, List.setIfInBounds_toArray, List.set_cons_zero, List.set_cons_succ])
      refine take_listL (i := 3) (v := .pointer (some ⟨B, 6, none⟩)) rfl (by kernel_rfl) (by kernel_rfl) (by kernel_rfl) (by kernel_rfl) (by kernel_rfl) (fun _ _ _ h => h) (by rfl) (by intro w' hw'; go_simp) hS ?_
      (try simp only [Act.put, List.setIfInBounds_toArray, List.set_cons_zero, List.set_cons_succ])
      refine take_listL (i := 4) (v := .map (some M)) rfl (by kernel_rfl) (by kernel_rfl) (by kernel_rfl) (by kernel_rfl) (by kernel_rfl) (fun _ _ _ h => h) (by rfl) (by intro w' hw'; have q0 := held_now hw' e6; go_simp) hS ?_
      (try simp only [Act.put, List.setIfInBounds_toArray, List.set_cons_zero, List.set_cons_succ])
      refine take_listL (i := 5) (v := .agg #[.int .i64 0, .int .i64 0]) rfl (by kernel_rfl) (by kernel_rfl) (by kernel_rfl) (by kernel_rfl) (by kernel_rfl) (fun _ _ _ h => h) (by rfl) (by intro w' hw'; have q0 := held_now hw' v0; have q1 := held_now hw' v1; go_simp) hS ?_
      (try simp only [Act.put, List.setIfInBounds_toArray, List.set_cons_zero, List.set_cons_succ])
      refine take_listL (i := 6) (v := .int .i64 (fg)) rfl (by kernel_rfl) (by kernel_rfl) (by kernel_rfl) (by kernel_rfl) (by kernel_rfl) (fun _ _ _ h => h) (by rfl) (by intro w' hw'; have h9 := (HF.out.1.of_heap (hw'.block M HF.out.1.lt)).look (ok_gate); rw [← HFO.out.1] at h9; dsimp only [nodeV, gateN, boomN, ownN', pckN] at h9; go_simp) hS ?_
      (try simp only [Act.put, List.setIfInBounds_toArray, List.set_cons_zero, List.set_cons_succ])
      refine take_listL (i := 7) (v := .pointer (some ⟨B, 0, none⟩)) rfl (by kernel_rfl) (by kernel_rfl) (by kernel_rfl) (by kernel_rfl) (by kernel_rfl) (fun _ _ _ h => h) (by rfl) (by intro w' hw'; go_simp) hS ?_
      (try simp only [Act.put, List.setIfInBounds_toArray, List.set_cons_zero, List.set_cons_succ])
      refine take_listL (i := 8) (v := .pointer (some ⟨B, 0, none⟩)) rfl (by kernel_rfl) (by kernel_rfl) (by kernel_rfl) (by kernel_rfl) (by kernel_rfl) (fun _ _ _ h => h) (by rfl) (by intro w' hw'; go_simp) hS ?_
      (try simp only [Act.put, List.setIfInBounds_toArray, List.set_cons_zero, List.set_cons_succ])
      refine take_listL (i := 9) (v := .pointer (some ⟨B, 6, none⟩)) rfl (by kernel_rfl) (by kernel_rfl) (by kernel_rfl) (by kernel_rfl) (by kernel_rfl) (fun _ _ _ h => h) (by rfl) (by intro w' hw'; go_simp) hS ?_
      (try simp only [Act.put, List.setIfInBounds_toArray, List.set_cons_zero, List.set_cons_succ])
      refine take_listL (i := 10) (v := .map (some M)) rfl (by kernel_rfl) (by kernel_rfl) (by kernel_rfl) (by kernel_rfl) (by kernel_rfl) (fun _ _ _ h => h) (by rfl) (by intro w' hw'; have q0 := held_now hw' e6; go_simp) hS ?_
      (try simp only [Act.put, List.setIfInBounds_toArray, List.set_cons_zero, List.set_cons_succ])
      refine take_listL (i := 11) (v := .int .i64 (k : Int)) rfl (by kernel_rfl) (by kernel_rfl) (by kernel_rfl) (by kernel_rfl) (by kernel_rfl) (fun _ _ _ h => h) (by rfl) (by intro w' hw'; go_simp) hS ?_
      (try simp only [Act.put, List.setIfInBounds_toArray, List.set_cons_zero, List.set_cons_succ])
      refine take_listL (i := 12) (v := .agg #[.int .i64 1, .int .i64 (k : Int)]) rfl (by kernel_rfl) (by kernel_rfl) (by kernel_rfl) (by kernel_rfl) (by kernel_rfl) (fun _ _ _ h => h) (by rfl) (by intro w' hw'; go_simp) hS ?_
      (try simp only [Act.put, List.setIfInBounds_toArray, List.set_cons_zero, List.set_cons_succ])
      refine take_listL (i := 13) (v := .int .i64 (fo)) rfl (by kernel_rfl) (by kernel_rfl) (by kernel_rfl) (by kernel_rfl) (by kernel_rfl) (fun _ _ _ h => h) (by rfl) (by intro w' hw'; have h9 := (HF.out.1.of_heap (hw'.block M HF.out.1.lt)).look (ok_own (i := k) (by have := HL.out; omega)); rw [← HFO.out.2] at h9; dsimp only [nodeV, gateN, boomN, ownN', pckN] at h9; go_simp) hS ?_
      (try simp only [Act.put, List.setIfInBounds_toArray, List.set_cons_zero, List.set_cons_succ])
      refine take_listL (i := 14) (v := .int .i64 (fg - fo)) rfl (by kernel_rfl) (by kernel_rfl) (by kernel_rfl) (by kernel_rfl) (by kernel_rfl) (fun _ _ _ h => h) (by rfl) (by intro w' hw'; go_simp; exact IntWalk.i64_in _ (by omega)) hS ?_
      (try simp only [Act.put, List.setIfInBounds_toArray, List.set_cons_zero, List.set_cons_succ])
      refine step_listL (i := 15) (by kernel_rfl) rfl (by decide) (by rfl) (fun K hK => ?_)
      go_simp
      have hb0 : Below w0.heap.size w0 (w0.alloc (.cells #[.int .i64 (fg - fo)] 3)) := (Below.refl _ _).alloc (Nat.le_refl _) _
      have hS5 : Below wr.heap.size wr (w0.alloc (.cells #[.int .i64 (fg - fo)] 3)) := hS.trans (hb0.mono hS.size)
      refine hK _ _ hS5 ?_
      clear hK K
      (try simp only [Act.put, List.setIfInBounds_toArray, List.set_cons_zero, List.set_cons_succ])
      refine last_listL (i := 16) (by kernel_rfl) rfl (by decide) (by rfl) (fun K hK => ?_)
      refine wp_push_int rfl (.tmp 15) (.tmp 30) rfl w.heap.size A c (wtsO far k) (fg - fo) rfl (pw_own_below HR.out.1 hS5) w0.heap.size rfl (heap_alloc_last _ _) (by have := HL.out; simp [wtsO, wtsP]; omega) (by have := HR.out.2.size; have := hS5.size; omega) ?_
      intro A6 c6 w6 hown6 hg6
      have HN := Lib.hid (And.intro hown6 (below_own HR.out.1 HR.out.2 hS5 hg6))
      refine hK _ _ ?_
      clear hK K hown6 hg6 hS5 hb0 hS
      (try simp only [Act.put, List.setIfInBounds_toArray, List.set_cons_zero, List.set_cons_succ])
      refine last_listL (i := 17) (by kernel_rfl) rfl (by decide) (by rfl) (fun K hK => ?_)
      go_simp
      refine hK _ _ ?_
      clear hK K
      (try simp only [Act.put, List.setIfInBounds_toArray, List.set_cons_zero, List.set_cons_succ])
      refine wpAnyLast_done (by kernel_rfl) ?_ _
      go_wp2
      go_roundw
      case rel => exact ⟨k + 1, by omega, by go_num, A6, c6, rfl, Lib.hid ⟨by rw [wtsO_succ, ← HFO.out.1, ← HFO.out.2]; exact HN.out.1, HN.out.2⟩⟩
      case measure => simp [intOf]; omega
    · have hnl : ¬ ((k : Int) < (s.l0.length : Int)) := by omega
      obtain rfl : k = s.l0.length := by omega
      have HR0 : Hid (wr.ownsRow w.heap.size 3 1 (.slice A (s.l0.length + 0) c) (s.l0.length + 0) (nums .i64 (wtsP far s.l0.length 0)) ∧ Below w.heap.size w wr) := Lib.hid (by
        have := HR.out
        rw [Nat.add_zero]
        refine ⟨?_, this.2⟩
        unfold wtsP; rw [List.range_zero, List.map_nil, List.append_nil]; exact this.1)
      obtain ⟨wo, rfl⟩ : ∃ wo : World, wo = wr := ⟨_, rfl⟩
      have q1 := HF.out.2.1.b1
      clear hk HR
      go_wp2_with fail
      clear q1
      go_loopw [3, 39] (fun v i wr => ∃ k : Nat, k ≤ s.l1.length ∧ i = .int .i64 k ∧ ∃ A c, v = .slice A (s.l0.length + k) c ∧ Hid (wr.ownsRow w.heap.size 3 1 (.slice A (s.l0.length + k) c) (s.l0.length + k) (nums .i64 (wtsP far s.l0.length k)) ∧ Below w.heap.size w wr)) (fun _ i _ => 60 - (intOf i).toNat)
      case atStart => exact ⟨0, Nat.zero_le _, rfl, A, c, rfl, HR0⟩
      case round =>
        clear HR0 HF
        obtain ⟨k, hk, rfl, A, c, rfl, HR⟩ := hrel
        have HF := Lib.hid (And.intro (HB.out.2.1.of_heap (HR.out.2.block M HB.out.2.1.lt)) (And.intro (HB.out.1.below HR.out.2) (HB.out.2.2.below HR.out.2)))
        by_cases hlt : k < s.l1.length
        · have hlti : (k : Int) < (s.l1.length : Int) := by omega
          have p0 : (0 : Int) ≤ (k : Int) := by omega
          have p5 : (k : Int) < 5 := by have := HL.out; omega
          have e6 := HF.out.2.1.b6
          have v2 := HF.out.2.2.b0
          have v3 := HF.out.2.2.b1
          obtain ⟨fo, hfo⟩ : ∃ x, x = far (pckN k) := ⟨_, rfl⟩
          obtain ⟨fb, hfb⟩ : ∃ x, x = far boomN := ⟨_, rfl⟩
          obtain ⟨x1, x2⟩ := HFB.out (pckN k)
          obtain ⟨x3, x4⟩ := HFB.out boomN
          rw [← hfo] at x1 x2
          rw [← hfb] at x3 x4
          have HFO := Lib.hid (And.intro hfo hfb)
          clear hfo hfb
          go_upto_region 10 with fail
          have hS : Below wr.heap.size wr wr.drew := (Below.refl _ _).drew
          refine wp_region_last_list (k := 18) rfl (fun w' => Below wr.heap.size wr w') [16, 17] (by kernel_rfl) ?_
          generalize wr.drew = w0 at hS ⊢
          refine take_listL (i := 0) (v := .slice A (s.l0.length + k) c) rfl (by kernel_rfl) (by kernel_rfl) (by kernel_rfl) (by kernel_rfl) (by kernel_rfl) (fun _ _ _ h => h) (by rfl) (by intro w' hw'; go_simp) hS ?_
          (try simp only [Act.put, List.setIfInBounds_toArray, List.set_cons_zero, List.set_cons_succ])
          refine take_listL (i := 1) (v := .pointer (some ⟨B, 0, none⟩)) rfl (by kernel_rfl) (by kernel_rfl) (by kernel_rfl) (by kernel_rfl) (by kernel_rfl) (fun _ _ _ h => h) (by rfl) (by intro w' hw'; go_simp) hS ?_
          (try simp only [Act.put, List.setIfInBounds_toArray, List.set_cons_zero, List.set_cons_succ])
          refine take_listL (i := 2) (v := .pointer (some ⟨B, 0, none⟩)) rfl (by kernel_rfl) (by kernel_rfl) (by kernel_rfl) (by kernel_rfl) (by kernel_rfl) (fun _ _ _ h => h) (by rfl) (by intro w' hw'; go_simp) hS ?_
          (try simp only [Act.put, List.setIfInBounds_toArray, List.set_cons_zero, List.set_cons_succ])
          refine take_listL (i := 3) (v := .pointer (some ⟨B, 6, none⟩)) rfl (by kernel_rfl) (by kernel_rfl) (by kernel_rfl) (by kernel_rfl) (by kernel_rfl) (fun _ _ _ h => h) (by rfl) (by intro w' hw'; go_simp) hS ?_
          (try simp only [Act.put, List.setIfInBounds_toArray, List.set_cons_zero, List.set_cons_succ])
          refine take_listL (i := 4) (v := .map (some M)) rfl (by kernel_rfl) (by kernel_rfl) (by kernel_rfl) (by kernel_rfl) (by kernel_rfl) (fun _ _ _ h => h) (by rfl) (by intro w' hw'; have q0 := held_now hw' e6; go_simp) hS ?_
          (try simp only [Act.put, List.setIfInBounds_toArray, List.set_cons_zero, List.set_cons_succ])
          refine take_listL (i := 5) (v := .int .i64 (k : Int)) rfl (by kernel_rfl) (by kernel_rfl) (by kernel_rfl) (by kernel_rfl) (by kernel_rfl) (fun _ _ _ h => h) (by rfl) (by intro w' hw'; go_simp) hS ?_
          (try simp only [Act.put, List.setIfInBounds_toArray, List.set_cons_zero, List.set_cons_succ])
          refine take_listL (i := 6) (v := .agg #[.int .i64 2, .int .i64 (k : Int)]) rfl (by kernel_rfl) (by kernel_rfl) (by kernel_rfl) (by kernel_rfl) (by kernel_rfl) (fun _ _ _ h => h) (by rfl) (by intro w' hw'; go_simp) hS ?_
          (try simp only [Act.put, List.setIfInBounds_toArray, List.set_cons_zero, List.set_cons_succ])
          refine take_listL (i := 7) (v := .int .i64 (fo)) rfl (by kernel_rfl) (by kernel_rfl) (by kernel_rfl) (by kernel_rfl) (by kernel_rfl) (fun _ _ _ h => h) (by rfl) (by intro w' hw'; have h9 := (HF.out.1.of_heap (hw'.block M HF.out.1.lt)).look (ok_pck (i := k) (by have := HL.out; omega)); rw [← HFO.out.1] at h9; dsimp only [nodeV, gateN, boomN, ownN', pckN] at h9; go_simp) hS ?_
          (try simp only [Act.put, List.setIfInBounds_toArray, List.set_cons_zero, List.set_cons_succ])
          refine take_listL (i := 8) (v := .pointer (some ⟨B, 0, none⟩)) rfl (by kernel_rfl) (by kernel_rfl) (by kernel_rfl) (by kernel_rfl) (by kernel_rfl) (fun _ _ _ h => h) (by rfl) (by intro w' hw'; go_simp) hS ?_
          (try simp only [Act.put, List.setIfInBounds_toArray, List.set_cons_zero, List.set_cons_succ])
          refine take_listL (i := 9) (v := .pointer (some ⟨B, 0, none⟩)) rfl (by kernel_rfl) (by kernel_rfl) (by kernel_rfl) (by kernel_rfl) (by kernel_rfl) (fun _ _ _ h => h) (by rfl) (by intro w' hw'; go_simp) hS ?_
          (try simp only [Act.put, List.setIfInBounds_toArray, List.set_cons_zero, List.set_cons_succ])
          refine take_listL (i := 10) (v := .pointer (some ⟨B, 6, none⟩)) rfl (by kernel_rfl) (by kernel_rfl) (by kernel_rfl) (by kernel_rfl) (by kernel_rfl) (fun _ _ _ h => h) (by rfl) (by intro w' hw'; go_simp) hS ?_
          (try simp only [Act.put, List.setIfInBounds_toArray, List.set_cons_zero, List.set_cons_succ])
          refine take_listL (i := 11) (v := .map (some M)) rfl (by kernel_rfl) (by kernel_rfl) (by kernel_rfl) (by kernel_rfl) (by kernel_rfl) (fun _ _ _ h => h) (by rfl) (by intro w' hw'; have q0 := held_now hw' e6; go_simp) hS ?_
          (try simp only [Act.put, List.setIfInBounds_toArray, List.set_cons_zero, List.set_cons_succ])
          refine take_listL (i := 12) (v := .agg #[.int .i64 3, .int .i64 0]) rfl (by kernel_rfl) (by kernel_rfl) (by kernel_rfl) (by kernel_rfl) (by kernel_rfl) (fun _ _ _ h => h) (by rfl) (by intro w' hw'; have q0 := held_now hw' v2; have q1 := held_now hw' v3; go_simp) hS ?_
          (try simp only [Act.put, List.setIfInBounds_toArray, List.set_cons_zero, List.set_cons_succ])
          refine take_listL (i := 13) (v := .int .i64 (fb)) rfl (by kernel_rfl) (by kernel_rfl) (by kernel_rfl) (by kernel_rfl) (by kernel_rfl) (fun _ _ _ h => h) (by rfl) (by intro w' hw'; have h9 := (HF.out.1.of_heap (hw'.block M HF.out.1.lt)).look (ok_boom); rw [← HFO.out.2] at h9; dsimp only [nodeV, gateN, boomN, ownN', pckN] at h9; go_simp) hS ?_
          (try simp only [Act.put, List.setIfInBounds_toArray, List.set_cons_zero, List.set_cons_succ])
          refine take_listL (i := 14) (v := .int .i64 (fo - fb)) rfl (by kernel_rfl) (by kernel_rfl) (by kernel_rfl) (by kernel_rfl) (by kernel_rfl) (fun _ _ _ h => h) (by rfl) (by intro w' hw'; go_simp; exact IntWalk.i64_in _ (by omega)) hS ?_
          (try simp only [Act.put, List.setIfInBounds_toArray, List.set_cons_zero, List.set_cons_succ])
          refine step_listL (i := 15) (by kernel_rfl) rfl (by decide) (by rfl) (fun K hK => ?_)
          go_simp
          have hb0 : Below w0.heap.size w0 (w0.alloc (.cells #[.int .i64 (fo - fb)] 3)) := (Below.refl _ _).alloc (Nat.le_refl _) _
          have hS5 : Below wr.heap.size wr (w0.alloc (.cells #[.int .i64 (fo - fb)] 3)) := hS.trans (hb0.mono hS.size)
          refine hK _ _ hS5 ?_
          clear hK K
          (try simp only [Act.put, List.setIfInBounds_toArray, List.set_cons_zero, List.set_cons_succ])
          refine last_listL (i := 16) (by kernel_rfl) rfl (by decide) (by rfl) (fun K hK => ?_)
          refine wp_push_int rfl (.tmp 42) (.tmp 57) rfl w.heap.size A c (wtsP far s.l0.length k) (fo - fb) rfl (pw_own_below HR.out.1 hS5) w0.heap.size rfl (heap_alloc_last _ _) (by have := HL.out; simp [wtsO, wtsP]; omega) (by have := HR.out.2.size; have := hS5.size; omega) ?_
          intro A6 c6 w6 hown6 hg6
          have HN := Lib.hid (And.intro hown6 (below_own HR.out.1 HR.out.2 hS5 hg6))
          refine hK _ _ ?_
          clear hK K hown6 hg6 hS5 hb0 hS
          (try simp only [Act.put, List.setIfInBounds_toArray, List.set_cons_zero, List.set_cons_succ])
          refine last_listL (i := 17) (by kernel_rfl) rfl (by decide) (by rfl) (fun K hK => ?_)
          go_simp
          refine hK _ _ ?_
          clear hK K
          (try simp only [Act.put, List.setIfInBounds_toArray, List.set_cons_zero, List.set_cons_succ])
          refine wpAnyLast_done (by kernel_rfl) ?_ _
          go_wp2
          go_roundw
          case rel => exact ⟨k + 1, by omega, by go_num, A6, c6, rfl, Lib.hid ⟨by rw [wtsP_succ, ← HFO.out.1, ← HFO.out.2]; exact HN.out.1, HN.out.2⟩⟩
          case measure => simp [intOf]; omega
        · have hnl : ¬ ((k : Int) < (s.l1.length : Int)) := by omega
          obtain rfl : k = s.l1.length := by omega
          have e6 := HF.out.2.1.b6
          have v0 := HF.out.2.2.g0
          have v1 := HF.out.2.2.g1
          have v2 := HF.out.2.2.b0
          have v3 := HF.out.2.2.b1
          obtain ⟨fb, hfb⟩ : ∃ x, x = far boomN := ⟨_, rfl⟩
          obtain ⟨fg, hfg⟩ : ∃ x, x = far gateN := ⟨_, rfl⟩
          obtain ⟨x1, x2⟩ := HFB.out boomN
          obtain ⟨x3, x4⟩ := HFB.out gateN
          rw [← hfb] at x1 x2
          rw [← hfg] at x3 x4
          have HFO := Lib.hid (And.intro hfb hfg)
          clear hfb hfg
          go_upto_region 12 with fail
          have hS : Below wr.heap.size wr wr.drew := (Below.refl _ _).drew
          refine wp_region_last_list (k := 17) rfl (fun w' => Below wr.heap.size wr w') [15, 16] (by kernel_rfl) ?_
          generalize wr.drew = w0 at hS ⊢
          refine take_listL (i := 0) (v := .slice A (s.l0.length + s.l1.length) c) rfl (by kernel_rfl) (by kernel_rfl) (by kernel_rfl) (by kernel_rfl) (by kernel_rfl) (fun _ _ _ h => h) (by rfl) (by intro w' hw'; go_simp) hS ?_
          (try simp only [Act.put, List.setIfInBounds_toArray, List.set_cons_zero, List.set_cons_succ])
          refine take_listL (i := 1) (v := .pointer (some ⟨B, 0, none⟩)) rfl (by kernel_rfl) (by kernel_rfl) (by kernel_rfl) (by kernel_rfl) (by kernel_rfl) (fun _ _ _ h => h) (by rfl) (by intro w' hw'; go_simp) hS ?_
          (try simp only [Act.put, List.setIfInBounds_toArray, List.set_cons_zero, List.set_cons_succ])
          refine take_listL (i := 2) (v := .pointer (some ⟨B, 0, none⟩)) rfl (by kernel_rfl) (by kernel_rfl) (by kernel_rfl) (by kernel_rfl) (by kernel_rfl) (fun _ _ _ h => h) (by rfl) (by intro w' hw'; go_simp) hS ?_
          (try simp only [Act.put, List.setIfInBounds_toArray, List.set_cons_zero, List.set_cons_succ])
          refine take_listL (i := 3) (v := .pointer (some ⟨B, 6, none⟩)) rfl (by kernel_rfl) (by kernel_rfl) (by kernel_rfl) (by kernel_rfl) (by kernel_rfl) (fun _ _ _ h => h) (by rfl) (by intro w' hw'; go_simp) hS ?_
          (try simp only [Act.put, List.setIfInBounds_toArray, List.set_cons_zero, List.set_cons_succ])
          refine take_listL (i := 4) (v := .map (some M)) rfl (by kernel_rfl) (by kernel_rfl) (by kernel_rfl) (by kernel_rfl) (by kernel_rfl) (fun _ _ _ h => h) (by rfl) (by intro w' hw'; have q0 := held_now hw' e6; go_simp) hS ?_
          (try simp only [Act.put, List.setIfInBounds_toArray, List.set_cons_zero, List.set_cons_succ])
          refine take_listL (i := 5) (v := .agg #[.int .i64 3, .int .i64 0]) rfl (by kernel_rfl) (by kernel_rfl) (by kernel_rfl) (by kernel_rfl) (by kernel_rfl) (fun _ _ _ h => h) (by rfl) (by intro w' hw'; have q0 := held_now hw' v2; have q1 := held_now hw' v3; go_simp) hS ?_
          (try simp only [Act.put, List.setIfInBounds_toArray, List.set_cons_zero, List.set_cons_succ])
          refine take_listL (i := 6) (v := .int .i64 (fb)) rfl (by kernel_rfl) (by kernel_rfl) (by kernel_rfl) (by kernel_rfl) (by kernel_rfl) (fun _ _ _ h => h) (by rfl) (by intro w' hw'; have h9 := (HF.out.1.of_heap (hw'.block M HF.out.1.lt)).look (ok_boom); rw [← HFO.out.1] at h9; dsimp only [nodeV, gateN, boomN, ownN', pckN] at h9; go_simp) hS ?_
          (try simp only [Act.put, List.setIfInBounds_toArray, List.set_cons_zero, List.set_cons_succ])
          refine take_listL (i := 7) (v := .pointer (some ⟨B, 0, none⟩)) rfl (by kernel_rfl) (by kernel_rfl) (by kernel_rfl) (by kernel_rfl) (by kernel_rfl) (fun _ _ _ h => h) (by rfl) (by intro w' hw'; go_simp) hS ?_
          (try simp only [Act.put, List.setIfInBounds_toArray, List.set_cons_zero, List.set_cons_succ])
          refine take_listL (i := 8) (v := .pointer (some ⟨B, 0, none⟩)) rfl (by kernel_rfl) (by kernel_rfl) (by kernel_rfl) (by kernel_rfl) (by kernel_rfl) (fun _ _ _ h => h) (by rfl) (by intro w' hw'; go_simp) hS ?_
          (try simp only [Act.put, List.setIfInBounds_toArray, List.set_cons_zero, List.set_cons_succ])
          refine take_listL (i := 9) (v := .pointer (some ⟨B, 6, none⟩)) rfl (by kernel_rfl) (by kernel_rfl) (by kernel_rfl) (by kernel_rfl) (by kernel_rfl) (fun _ _ _ h => h) (by rfl) (by intro w' hw'; go_simp) hS ?_
          (try simp only [Act.put, List.setIfInBounds_toArray, List.set_cons_zero, List.set_cons_succ])
          refine take_listL (i := 10) (v := .map (some M)) rfl (by kernel_rfl) (by kernel_rfl) (by kernel_rfl) (by kernel_rfl) (by kernel_rfl) (fun _ _ _ h => h) (by rfl) (by intro w' hw'; have q0 := held_now hw' e6; go_simp) hS ?_
          (try simp only [Act.put, List.setIfInBounds_toArray, List.set_cons_zero, List.set_cons_succ])
          refine take_listL (i := 11) (v := .agg #[.int .i64 0, .int .i64 0]) rfl (by kernel_rfl) (by kernel_rfl) (by kernel_rfl) (by kernel_rfl) (by kernel_rfl) (fun _ _ _ h => h) (by rfl) (by intro w' hw'; have q0 := held_now hw' v0; have q1 := held_now hw' v1; go_simp) hS ?_
          (try simp only [Act.put, List.setIfInBounds_toArray, List.set_cons_zero, List.set_cons_succ])
          refine take_listL (i := 12) (v := .int .i64 (fg)) rfl (by kernel_rfl) (by kernel_rfl) (by kernel_rfl) (by kernel_rfl) (by kernel_rfl) (fun _ _ _ h => h) (by rfl) (by intro w' hw'; have h9 := (HF.out.1.of_heap (hw'.block M HF.out.1.lt)).look (ok_gate); rw [← HFO.out.2] at h9; dsimp only [nodeV, gateN, boomN, ownN', pckN] at h9; go_simp) hS ?_
          (try simp only [Act.put, List.setIfInBounds_toArray, List.set_cons_zero, List.set_cons_succ])
          refine take_listL (i := 13) (v := .int .i64 (fb - fg)) rfl (by kernel_rfl) (by kernel_rfl) (by kernel_rfl) (by kernel_rfl) (by kernel_rfl) (fun _ _ _ h => h) (by rfl) (by intro w' hw'; go_simp; exact IntWalk.i64_in _ (by omega)) hS ?_
          (try simp only [Act.put, List.setIfInBounds_toArray, List.set_cons_zero, List.set_cons_succ])
          refine step_listL (i := 14) (by kernel_rfl) rfl (by decide) (by rfl) (fun K hK => ?_)
          go_simp
          have hb0 : Below w0.heap.size w0 (w0.alloc (.cells #[.int .i64 (fb - fg)] 3)) := (Below.refl _ _).alloc (Nat.le_refl _) _
          have hS5 : Below wr.heap.size wr (w0.alloc (.cells #[.int .i64 (fb - fg)] 3)) := hS.trans (hb0.mono hS.size)
          refine hK _ _ hS5 ?_
          clear hK K
          (try simp only [Act.put, List.setIfInBounds_toArray, List.set_cons_zero, List.set_cons_succ])
          refine last_listL (i := 15) (by kernel_rfl) rfl (by decide) (by rfl) (fun K hK => ?_)
          refine wp_push_int rfl (.tmp 60) (.tmp 74) rfl w.heap.size A c (wtsP far s.l0.length s.l1.length) (fb - fg) rfl (pw_own_below HR.out.1 hS5) w0.heap.size rfl (heap_alloc_last _ _) (by have := HL.out; simp [wtsO, wtsP]; omega) (by have := HR.out.2.size; have := hS5.size; omega) ?_
          intro A6 c6 w6 hown6 hg6
          have HN := Lib.hid (And.intro hown6 (below_own HR.out.1 HR.out.2 hS5 hg6))
          refine hK _ _ ?_
          clear hK K hown6 hg6 hS5 hb0 hS
          (try simp only [Act.put, List.setIfInBounds_toArray, List.set_cons_zero, List.set_cons_succ])
          refine last_listL (i := 16) (by kernel_rfl) rfl (by decide) (by rfl) (fun K hK => ?_)
          go_simp
          refine hK _ _ ?_
          clear hK K
          (try simp only [Act.put, List.setIfInBounds_toArray, List.set_cons_zero, List.set_cons_succ])
          refine wpAnyLast_done (by kernel_rfl) ?_ _
          go_wp2
          go_ret
          refine ⟨A6, c6, rfl, ?_, HN.out.2⟩
          unfold wtsL
          rw [← HFO.out.1, ← HFO.out.2]
          exact HN.out.1
def BoxI (W : World) (b : Nat) (x : Int) : Prop := W.heap[b]? = some (.cells #[.int .i64 x] 2 (0, 0))
theorem BoxI.cell {W : World} {b : Nat} {x : Int} (h : BoxI W b x) : W.cell? ⟨b, 0, none⟩ = some (.int .i64 x) := by rw [cell_of_row W _ _ _ _ _ h]; rfl
theorem BoxI.free {W : World} {b : Nat} {x : Int} (h : BoxI W b x) : W.frozen? ⟨b, 0, none⟩ = false := frozen_of_row W _ 0 _ _ h
theorem BoxI.set {W : World} {b : Nat} {x : Int} (h : BoxI W b x) (y : Int) : BoxI (W.setCell ⟨b, 0, none⟩ (.int .i64 y)) b y := heap_setCell_same W b 0 _ _ (.int .i64 y) h
theorem BoxI.below {W W' : World} {b : Nat} {x : Int} (h : BoxI W b x) (hb : Below W.heap.size W W') : BoxI W' b x := (hb.block b (heap_lt h)).trans h
set_option maxHeartbeats 4000000 in
set_option maxRecDepth 100000 in
theorem put_any (b : Nat) (v x r1 r2 : Int) (w : World) (h : BoxI w b x) (hr : RgOk (r1, r2)) (hx : -1000000 ≤ x ∧ x ≤ 1000000) :
    Calls Tryd.prog 77 #[.int .i64 v, .agg #[.int .i64 r1, .int .i64 r2], .pointer (some ⟨b, 0, none⟩)] w fun e w' => e = .returned (.tuple #[]) ∧ BoxI w' b (x + putW v (r1, r2)) ∧ HoleL [b] w.heap.size w w' := by
  obtain ⟨x1, x2⟩ := hx
  obtain ⟨p1, p2, p3⟩ := hr
  dsimp only at p1 p2 p3
  obtain ⟨W, hW⟩ : ∃ W, W = w.alloc (.cells #[.int .i64 r1, .int .i64 r2] 24) := ⟨_, rfl⟩
  have hb : Below w.heap.size w W := by rw [hW]; exact (Below.refl _ _).alloc (Nat.le_refl _) _
  have hB := h.below hb
  have HB := Lib.hid (And.intro hB hb)
  have c0 : W.cell? ⟨w.heap.size, 0, none⟩ = some (.int .i64 r1) := by rw [hW]; simp [go_sem]
  have c1 : W.cell? ⟨w.heap.size, 1, none⟩ = some (.int .i64 r2) := by rw [hW]; simp [go_sem]
  have cx := hB.cell
  have fx := hB.free
  clear hB hb h
  go_enter Tryd.func77, Tryd.ntmps77
  go_upto_region 1 with fail
  rw [← hW]
  clear hW
  by_cases g1 : v = 1
  · have b1 : (v == 1) = true := beq_iff_eq.2 g1
    have HG := Lib.hid g1
    clear g1
    go_wp2_with fail
    go_end0
    refine ⟨rfl, ?_, (HoleL.of_below HB.out.2 (Nat.le_refl _)).set (.inl (by simp)) _⟩
    rw [putW, if_pos HG.out]
    exact HB.out.1.set _
  · have b1 : (v == 1) = false := beq_eq_false_iff_ne.2 g1
    by_cases g2 : v = -1
    · have b2 : (v == -1) = true := beq_iff_eq.2 g2
      have HG := Lib.hid g2
      clear g1 g2
      go_wp2_with fail
      go_end0
      refine ⟨rfl, ?_, (HoleL.of_below HB.out.2 (Nat.le_refl _)).set (.inl (by simp)) _⟩
      rw [putW, HG.out, if_neg (by decide), if_pos rfl, show x + -r2 = x - r2 by omega]
      exact HB.out.1.set _
    · have b2 : (v == -1) = false := beq_eq_false_iff_ne.2 g2
      have HG := Lib.hid (And.intro g1 g2)
      clear g1 g2
      go_wp2_with fail
      go_end0
      refine ⟨rfl, ?_, HoleL.of_below HB.out.2 (Nat.le_refl _)⟩
      rw [putW, if_neg HG.out.1, if_neg HG.out.2, Int.add_zero]
      exact HB.out.1
def wsW (n m : Nat) (ws : List Int) : Wts := ⟨fun o => tat ws o, fun p => tat ws (n + p), tat ws (n + m)⟩
def bdO (s : ShM) (ws : List Int) (k : Nat) : Int := sumR k fun o => putW (tat ws o) (rgAt s.sh.os o)
def bdP (s : ShM) (ws : List Int) (k : Nat) : Int := bdO s ws s.l0.length + sumR k fun p => putW (tat ws (s.l0.length + p)) (rgAt s.sh.ps p)
def bdW (s : ShM) (ws : List Int) : Int := bdP s ws s.l1.length + putW (tat ws (s.l0.length + s.l1.length)) s.sh.all
def bdC (s : ShM) (ws : List Int) (k : Nat) : Int := bdW s ws + sumR k fun i => cellB (tat ws (i / s.l1.length) + tat ws (s.l0.length + i % s.l1.length) + tat ws (s.l0.length + s.l1.length)) (rgAt s.sh.cs i)
theorem bd_end {s : ShM} (hS : s.Ok) (ws : List Int) : bdC s ws s.l4.length = boundS s.sh (wsW s.l0.length s.l1.length ws) := by
  have hl : s.l4.length = s.l0.length * s.l1.length := by have := hS.len; rw [ShM.len4] at this; rw [this]; simp [ShM.sh, shL]
  have m1 : 1 ≤ s.l1.length := by have := hS.m1; simp [ShM.sh, shL] at this; omega
  unfold bdC bdW bdP bdO boundS
  rw [ShM.len0, ShM.len1, hl, sumR_rows]
  congr 1
  refine sumR_congr fun o ho => sumR_congr fun p hp => ?_
  have h1 : (o * s.l1.length + p) / s.l1.length = o := by rw [Nat.add_comm, Nat.add_mul_div_right _ _ (by omega), Nat.div_eq_of_lt hp, Nat.zero_add]
  have h2 : (o * s.l1.length + p) % s.l1.length = p := by rw [Nat.add_comm, Nat.add_mul_mod_self_right, Nat.mod_eq_of_lt hp]
  rw [h1, h2]
  rfl
theorem sumR_bd {f : Nat → Int} {c : Int} : ∀ {n : Nat}, (∀ i, i < n → -c ≤ f i ∧ f i ≤ c) → -(n * c : Int) ≤ sumR n f ∧ sumR n f ≤ n * c
  | 0, _ => by simp [sumR_zero]
  | n + 1, h => by
    have h1 := sumR_bd (f := f) (n := n) fun i hi => h i (by omega)
    have h2 := h n (by omega)
    rw [sumR_succ, Int.natCast_succ, Int.add_mul, Int.one_mul]
    omega
theorem putW_bd {v : Int} {r : Int × Int} (hr : RgOk r) : -1000 ≤ putW v r ∧ putW v r ≤ 1000 := by
  obtain ⟨a, b, c⟩ := hr
  unfold putW; split <;> (try split) <;> omega
theorem cellB_bd {v : Int} {r : Int × Int} (hv : -3 ≤ v ∧ v ≤ 3) (hr : RgOk r) : -3000 ≤ cellB v r ∧ cellB v r ≤ 3000 := by
  obtain ⟨a, b, c⟩ := hr
  have : v = -3 ∨ v = -2 ∨ v = -1 ∨ v = 0 ∨ v = 1 ∨ v = 2 ∨ v = 3 := by omega
  unfold cellB
  rcases this with e | e | e | e | e | e | e <;> subst e <;> omega
section
variable {s : ShM} {ws : List Int} (hS : s.Ok) (hw : ∀ j, -1 ≤ tat ws j ∧ tat ws j ≤ 1)
include hS
theorem bdO_bd {k : Nat} (hk : k ≤ s.l0.length) : -5000 ≤ bdO s ws k ∧ bdO s ws k ≤ 5000 := by
  have n5 : s.l0.length ≤ 5 := by have := hS.n5; simp [ShM.sh, shL] at this; omega
  have := sumR_bd (n := k) (c := 1000) (f := fun o => putW (tat ws o) (rgAt s.sh.os o)) fun i hi => putW_bd (hS.ho i (by simp [ShM.sh, shL]; omega))
  unfold bdO; omega
theorem bdP_bd {k : Nat} (hk : k ≤ s.l1.length) : -10000 ≤ bdP s ws k ∧ bdP s ws k ≤ 10000 := by
  have m5 : s.l1.length ≤ 5 := by have := hS.m5; simp [ShM.sh, shL] at this; omega
  have h1 := bdO_bd (ws := ws) hS (Nat.le_refl s.l0.length)
  have := sumR_bd (n := k) (c := 1000) (f := fun p => putW (tat ws (s.l0.length + p)) (rgAt s.sh.ps p)) fun i hi => putW_bd (hS.hp i (by simp [ShM.sh, shL]; omega))
  unfold bdP; omega
theorem bdW_bd : -11000 ≤ bdW s ws ∧ bdW s ws ≤ 11000 := by
  have h1 := bdP_bd (ws := ws) hS (Nat.le_refl s.l1.length)
  have h2 := putW_bd (v := tat ws (s.l0.length + s.l1.length)) hS.ha
  unfold bdW; omega
include hw
theorem bdC_bd {k : Nat} (hk : k ≤ s.l4.length) : -100000 ≤ bdC s ws k ∧ bdC s ws k ≤ 100000 := by
  have l25 : s.l4.length ≤ 25 := by
    have hl : s.l4.length = s.l0.length * s.l1.length := by have := hS.len; rw [ShM.len4] at this; rw [this]; simp [ShM.sh, shL]
    have n5 : s.l0.length ≤ 5 := by have := hS.n5; simp [ShM.sh, shL] at this; omega
    have m5 : s.l1.length ≤ 5 := by have := hS.m5; simp [ShM.sh, shL] at this; omega
    rw [hl]
    calc s.l0.length * s.l1.length ≤ 5 * 5 := Nat.mul_le_mul n5 m5
      _ = 25 := rfl
  have h1 := bdW_bd (ws := ws) hS
  have := sumR_bd (n := k) (c := 3000) (f := fun i => cellB (tat ws (i / s.l1.length) + tat ws (s.l0.length + i % s.l1.length) + tat ws (s.l0.length + s.l1.length)) (rgAt s.sh.cs i)) fun i hi => cellB_bd (by
    have a := hw (i / s.l1.length); have b := hw (s.l0.length + i % s.l1.length); have c := hw (s.l0.length + s.l1.length); omega) (hS.hc i (by simp [ShM.sh, shL]; omega))
  unfold bdC; omega
end
theorem run_fromP {P : Program} (W : World) (t e : TypeId) (ht : P.underlying t = some (.slice e)) {i : TypeInfo} (hi : P.info? e = some i) (h1 : i.size = 1) (ad : Addr) (N c n : Nat) (hn : n ≤ N) (hlt : n < c) : (Instr.slice t (.slice (some ad) N c) (some (.int .i64 (n : Int))) none none).run P W = .ok (.slice (some (ad.add n)) (N - n) (c - n)) W := by
  have hel : P.elem t = e := by simp [Program.elem, ht]
  have hu : P.underlying t = some (.slice (P.elem t)) := by rw [hel]; exact ht
  have hne : c ≠ n := by omega
  rw [run_slice_l W t (some ad) N c hu .i64 n (by omega) (by omega), hel]
  simp [sizeOf, typeInfo, hi, sliced, Result.andThen, h1, hne]
theorem run_from (W : World) (ad : Addr) (N c n : Nat) (hn : n ≤ N) (hlt : n < c) : (Instr.slice 35 (.slice (some ad) N c) (some (.int .i64 (n : Int))) none none).run Tryd.prog W = .ok (.slice (some (ad.add n)) (N - n) (c - n)) W := by
  obtain ⟨i0, hi, hz0, hz1, hz2⟩ := info_parts infoInt
  exact run_fromP W _ _ Tryd.underlying35 hi hz1 ad N c n hn hlt
set_option maxHeartbeats 4000000 in
set_option maxRecDepth 100000 in
theorem bound_any (B Tb : Nat) (s : ShM) (fv : Value) (t : List Int) (ad : Addr) (N c : Nat) (ws : List Int) (w : World) (h : BookAt w B Tb s fv t) (hS : s.Ok) (hN : N = s.l0.length + s.l1.length + 1) (hc : N ≤ c) (hr : ∀ j, j < N → w.cell? (ad.add j) = some (.int .i64 (tat ws j))) (hw : ∀ j, -1 ≤ tat ws j ∧ tat ws j ≤ 1) :
    Calls Tryd.prog 57 #[.pointer (some ⟨B, 0, none⟩), .slice (some ad) N c] w fun e w' => e = .returned (.int .i64 (boundS s.sh (wsW s.l0.length s.l1.length ws))) ∧ Below w.heap.size w w' := by
  have HB := Lib.hid h
  have HS := Lib.hid hS
  have HN := Lib.hid (And.intro hN (And.intro hr hw))
  have n5 : s.l0.length ≤ 5 := by have := hS.n5; simp [ShM.sh, shL] at this; omega
  have m5 : s.l1.length ≤ 5 := by have := hS.m5; simp [ShM.sh, shL] at this; omega
  have HL := Lib.hid (And.intro n5 (And.intro m5 hc))
  obtain ⟨W, hW⟩ : ∃ W, W = w.alloc (.cells #[.int .i64 0] 2) := ⟨_, rfl⟩
  have hb : Below w.heap.size w W := by rw [hW]; exact (Below.refl _ _).alloc (Nat.le_refl _) _
  have h5 : BoxI W w.heap.size 0 := by rw [hW]; exact heap_alloc_last _ _
  obtain ⟨b5, hb5⟩ : ∃ b, b = w.heap.size := ⟨_, rfl⟩
  have HB5 : Hid (w.heap.size ≤ b5) := Lib.hid (by omega)
  have H0 : Hid (BoxI W b5 (bdO s ws 0) ∧ Below w.heap.size w W) := Lib.hid ⟨by rw [hb5]; exact h5, hb⟩
  have b0 := (h.below hb).b0
  have b0' := b0
  rw [hW] at b0'
  clear h hS hN hr hw h5 hb n5 m5 hc
  go_enter Tryd.func57, Tryd.ntmps57
  go_wp2_with fail
  rw [← hW, ← hb5]
  clear hW b0' hb5
  go_loopw [23] (fun i wr => ∃ k : Nat, k ≤ s.l0.length ∧ i = .int .i64 k ∧ Hid (BoxI wr b5 (bdO s ws k) ∧ Below w.heap.size w wr)) (fun i _ => 60 - (intOf i).toNat)
  case atStart => exact ⟨0, Nat.zero_le _, rfl, H0⟩
  case round =>
    obtain ⟨k, hk, rfl, HR⟩ := hrel
    have HK := Lib.hid (HB.out.below HR.out.2)
    by_cases hlt : k < s.l0.length
    · have hlti : (k : Int) < (s.l0.length : Int) := by omega
      have p0 : (0 : Int) ≤ (k : Int) := by omega
      have p5 : (k : Int) < 5 := by have := HL.out; omega
      obtain ⟨a0, hae, h1, h2⟩ := at_rg HK.out.rd.r0 hlt
      obtain ⟨g1, hg1⟩ : ∃ g, g = (rgAt (s.l0.map pr) k).1 := ⟨_, rfl⟩
      obtain ⟨g2, hg2⟩ : ∃ g, g = (rgAt (s.l0.map pr) k).2 := ⟨_, rfl⟩
      rw [← hg1] at h1
      rw [← hg2] at h2
      have hRG : rgAt s.sh.os k = (g1, g2) := by rw [hg1, hg2]; rfl
      obtain ⟨v, hv⟩ : ∃ v, v = tat ws k := ⟨_, rfl⟩
      obtain ⟨x, hx⟩ : ∃ x, x = bdO s ws k := ⟨_, rfl⟩
      have kN : (k : Int) < (N : Int) := by have := HN.out.1; omega
      have cv0 := HN.out.2.1 k (by omega)
      rw [← hv] at cv0
      have HRG : Hid (RgOk (g1, g2) ∧ -1000000 ≤ x ∧ x ≤ 1000000) := Lib.hid ⟨by rw [← hRG]; exact HS.out.ho k (by simp [ShM.sh, shL]; omega), by rw [hx]; have := bdO_bd (ws := ws) HS.out hk; omega⟩
      have HX : Hid (bdO s ws (k + 1) = x + putW v (g1, g2)) := Lib.hid (by rw [bdO, sumR_succ, hRG, ← hv, hx]; rfl)
      obtain ⟨wa, hwa⟩ : ∃ wa, wa = wr.alloc (.cells #[.int .i64 g1, .int .i64 g2] 24) := ⟨_, rfl⟩
      have hba : Below wr.heap.size wr wa := by rw [hwa]; exact (Below.refl _ _).alloc (Nat.le_refl _) _
      have a1 : wa.cell? ⟨wr.heap.size, 0, none⟩ = some (.int .i64 g1) := by rw [hwa]; simp [go_sem]
      have a2 : wa.cell? ⟨wr.heap.size, 1, none⟩ = some (.int .i64 g2) := by rw [hwa]; simp [go_sem]
      have cv : wa.cell? (ad.add k) = some (.int .i64 v) := by
        have hb := HR.out.2.trans (hba.mono HR.out.2.size)
        rw [hb.cell (cell_size cv0)]; exact cv0
      have HA := Lib.hid (And.intro (by have := HR.out.1.below hba; rw [← hx] at this; exact this : BoxI wa b5 x) (HR.out.2.trans (hba.mono HR.out.2.size)))
      clear hv hx hg1 hg2 hRG cv0 hba b0
      go_upto_region 6 with fail
      rw [← hwa]
      clear hwa h1 h2
      have hS : Below wa.heap.size wa wa.drew := (Below.refl _ _).drew
      refine wp_region_last_list (k := 7) rfl (fun w' => Below wa.heap.size wa w') [6] (by kernel_rfl) ?_
      generalize wa.drew = w0 at hS ⊢
      refine take_listL (i := 0) (v := .func (.func 77) #[] #[.pointer (some ⟨b5, 0, none⟩)]) rfl (by kernel_rfl) (by kernel_rfl) (by kernel_rfl) (by kernel_rfl) (by kernel_rfl) (fun _ _ _ h => h) (by rfl) (by intro w' hw'; go_simp) hS ?_
      (try simp only [Act.put, List.setIfInBounds_toArray, List.set_cons_zero, List.set_cons_succ])
      refine take_listL (i := 1) (v := .slice (some ad) N c) rfl (by kernel_rfl) (by kernel_rfl) (by kernel_rfl) (by kernel_rfl) (by kernel_rfl) (fun _ _ _ h => h) (by rfl) (by intro w' hw'; go_simp) hS ?_
      (try simp only [Act.put, List.setIfInBounds_toArray, List.set_cons_zero, List.set_cons_succ])
      refine take_listL (i := 2) (v := .int .i64 (k : Int)) rfl (by kernel_rfl) (by kernel_rfl) (by kernel_rfl) (by kernel_rfl) (by kernel_rfl) (fun _ _ _ h => h) (by rfl) (by intro w' hw'; go_simp) hS ?_
      (try simp only [Act.put, List.setIfInBounds_toArray, List.set_cons_zero, List.set_cons_succ])
      refine take_listL (i := 3) (v := .pointer (some (ad.add k))) rfl (by kernel_rfl) (by kernel_rfl) (by kernel_rfl) (by kernel_rfl) (by kernel_rfl) (fun _ _ _ h => h) (by rfl) (by intro w' hw'; go_simp) hS ?_
      (try simp only [Act.put, List.setIfInBounds_toArray, List.set_cons_zero, List.set_cons_succ])
      refine take_listL (i := 4) (v := .int .i64 v) rfl (by kernel_rfl) (by kernel_rfl) (by kernel_rfl) (by kernel_rfl) (by kernel_rfl) (fun _ _ _ h => h) (by rfl) (by intro w' hw'; have q0 := held_now hw' cv; go_simp) hS ?_
      (try simp only [Act.put, List.setIfInBounds_toArray, List.set_cons_zero, List.set_cons_succ])
      refine take_listL (i := 5) (v := .agg #[.int .i64 g1, .int .i64 g2]) rfl (by kernel_rfl) (by kernel_rfl) (by kernel_rfl) (by kernel_rfl) (by kernel_rfl) (fun _ _ _ h => h) (by rfl) (by intro w' hw'; have q0 := held_now hw' a1; have q1 := held_now hw' a2; go_simp) hS ?_
      (try simp only [Act.put, List.setIfInBounds_toArray, List.set_cons_zero, List.set_cons_succ])
      refine last_listL (i := 6) (by kernel_rfl) rfl (by decide) (by rfl) (fun K hK => ?_)
      go_simp
      refine (put_any b5 v x g1 g2 w0 (HA.out.1.below hS) HRG.out.1 HRG.out.2).mono ?_
      rintro e w7 ⟨rfl, hp, hq⟩
      have H7 := Lib.hid (And.intro hp (HA.out.2.trans ((hS.mono HA.out.2.size).trans (hq.below (by have := HA.out.2.size; have := hS.size; omega) (by simp; exact HB5.out)))))
      refine hK _ _ ?_
      clear hK K hp hq hS
      (try simp only [Act.put, List.setIfInBounds_toArray, List.set_cons_zero, List.set_cons_succ])
      refine wpAnyLast_done (by kernel_rfl) ?_ _
      go_wp2
      rw [← hae]
      clear hae
      go_roundw
      case rel => exact ⟨k + 1, by omega, by go_num, Lib.hid ⟨by rw [HX.out]; exact H7.out.1, H7.out.2⟩⟩
      case measure => simp [intOf]; omega
    · have hnl : ¬ ((k : Int) < (s.l0.length : Int)) := by omega
      obtain rfl : k = s.l0.length := by omega
      have hnN : s.l0.length ≤ N := by have := HN.out.1; omega
      have HR0 : Hid (BoxI wr b5 (bdP s ws 0) ∧ Below w.heap.size w wr) := Lib.hid ⟨by have := HR.out.1; unfold bdP; rw [sumR_zero, Int.add_zero]; exact this, HR.out.2⟩
      obtain ⟨wo, rfl⟩ : ∃ wo : World, wo = wr := ⟨_, rfl⟩
      have q0 := HK.out.b0
      have q1 := HK.out.b1
      have hsl := fun W => run_from W ad N c s.l0.length hnN (by have := HL.out; have := HN.out.1; omega)
      clear hk HR b0
      go_wp2_with fail
      clear hsl q0 q1 HK
      go_loopw [50] (fun i wr => ∃ k : Nat, k ≤ s.l1.length ∧ i = .int .i64 k ∧ Hid (BoxI wr b5 (bdP s ws k) ∧ Below w.heap.size w wr)) (fun i _ => 60 - (intOf i).toNat)
      case atStart => exact ⟨0, Nat.zero_le _, rfl, HR0⟩
      case round =>
        clear HR0
        obtain ⟨k, hk, rfl, HR⟩ := hrel
        have HK := Lib.hid (HB.out.below HR.out.2)
        by_cases hlt2 : k < s.l1.length
        · have hlti : (k : Int) < (s.l1.length : Int) := by omega
          have p0 : (0 : Int) ≤ (k : Int) := by omega
          have p5 : (k : Int) < 5 := by have := HL.out; omega
          obtain ⟨a0, hae, h1, h2⟩ := at_rg HK.out.rd.r1 hlt2
          obtain ⟨g1, hg1⟩ : ∃ g, g = (rgAt (s.l1.map pr) k).1 := ⟨_, rfl⟩
          obtain ⟨g2, hg2⟩ : ∃ g, g = (rgAt (s.l1.map pr) k).2 := ⟨_, rfl⟩
          rw [← hg1] at h1
          rw [← hg2] at h2
          have hRG : rgAt s.sh.ps k = (g1, g2) := by rw [hg1, hg2]; rfl
          obtain ⟨v, hv⟩ : ∃ v, v = tat ws (s.l0.length + k) := ⟨_, rfl⟩
          obtain ⟨x, hx⟩ : ∃ x, x = bdP s ws k := ⟨_, rfl⟩
          obtain ⟨N', hN'⟩ : ∃ N', N' = N - s.l0.length := ⟨_, rfl⟩
          have kN : (k : Int) < (N' : Int) := by have := HN.out.1; omega
          have cv0 := HN.out.2.1 (s.l0.length + k) (by have := HN.out.1; omega)
          rw [← hv, ← Go.Addr.add_add] at cv0
          have HRG : Hid (RgOk (g1, g2) ∧ -1000000 ≤ x ∧ x ≤ 1000000) := Lib.hid ⟨by rw [← hRG]; exact HS.out.hp k (by simp [ShM.sh, shL]; omega), by rw [hx]; have := bdP_bd (ws := ws) HS.out hk; omega⟩
          have HX : Hid (bdP s ws (k + 1) = x + putW v (g1, g2)) := Lib.hid (by rw [bdP, sumR_succ, hRG, ← hv, hx, bdP]; omega)
          obtain ⟨wa, hwa⟩ : ∃ wa, wa = wr.alloc (.cells #[.int .i64 g1, .int .i64 g2] 24) := ⟨_, rfl⟩
          have hba : Below wr.heap.size wr wa := by rw [hwa]; exact (Below.refl _ _).alloc (Nat.le_refl _) _
          have a1 : wa.cell? ⟨wr.heap.size, 0, none⟩ = some (.int .i64 g1) := by rw [hwa]; simp [go_sem]
          have a2 : wa.cell? ⟨wr.heap.size, 1, none⟩ = some (.int .i64 g2) := by rw [hwa]; simp [go_sem]
          have cv : wa.cell? ((ad.add s.l0.length).add k) = some (.int .i64 v) := by
            have hb := HR.out.2.trans (hba.mono HR.out.2.size)
            rw [hb.cell (cell_size cv0)]; exact cv0
          have HA := Lib.hid (And.intro (by have := HR.out.1.below hba; rw [← hx] at this; exact this : BoxI wa b5 x) (HR.out.2.trans (hba.mono HR.out.2.size)))
          rw [← hN']
          have HNN := Lib.hid hN'
          clear hv hx hg1 hg2 hRG cv0 hba hN'
          go_upto_region 12 with fail
          rw [← hwa]
          clear hwa h1 h2
          have hS : Below wa.heap.size wa wa.drew := (Below.refl _ _).drew
          refine wp_region_last_list (k := 7) rfl (fun w' => Below wa.heap.size wa w') [6] (by kernel_rfl) ?_
          generalize wa.drew = w0 at hS ⊢
          refine take_listL (i := 0) (v := .func (.func 77) #[] #[.pointer (some ⟨b5, 0, none⟩)]) rfl (by kernel_rfl) (by kernel_rfl) (by kernel_rfl) (by kernel_rfl) (by kernel_rfl) (fun _ _ _ h => h) (by rfl) (by intro w' hw'; go_simp) hS ?_
          (try simp only [Act.put, List.setIfInBounds_toArray, List.set_cons_zero, List.set_cons_succ])
          refine take_listL (i := 1) (v := .slice (some (ad.add s.l0.length)) N' (c - s.l0.length)) rfl (by kernel_rfl) (by kernel_rfl) (by kernel_rfl) (by kernel_rfl) (by kernel_rfl) (fun _ _ _ h => h) (by rfl) (by intro w' hw'; go_simp) hS ?_
          (try simp only [Act.put, List.setIfInBounds_toArray, List.set_cons_zero, List.set_cons_succ])
          refine take_listL (i := 2) (v := .int .i64 (k : Int)) rfl (by kernel_rfl) (by kernel_rfl) (by kernel_rfl) (by kernel_rfl) (by kernel_rfl) (fun _ _ _ h => h) (by rfl) (by intro w' hw'; go_simp) hS ?_
          (try simp only [Act.put, List.setIfInBounds_toArray, List.set_cons_zero, List.set_cons_succ])
          refine take_listL (i := 3) (v := .pointer (some ((ad.add s.l0.length).add k))) rfl (by kernel_rfl) (by kernel_rfl) (by kernel_rfl) (by kernel_rfl) (by kernel_rfl) (fun _ _ _ h => h) (by rfl) (by intro w' hw'; go_simp) hS ?_
          (try simp only [Act.put, List.setIfInBounds_toArray, List.set_cons_zero, List.set_cons_succ])
          refine take_listL (i := 4) (v := .int .i64 v) rfl (by kernel_rfl) (by kernel_rfl) (by kernel_rfl) (by kernel_rfl) (by kernel_rfl) (fun _ _ _ h => h) (by rfl) (by intro w' hw'; have q0 := held_now hw' cv; go_simp) hS ?_
          (try simp only [Act.put, List.setIfInBounds_toArray, List.set_cons_zero, List.set_cons_succ])
          refine take_listL (i := 5) (v := .agg #[.int .i64 g1, .int .i64 g2]) rfl (by kernel_rfl) (by kernel_rfl) (by kernel_rfl) (by kernel_rfl) (by kernel_rfl) (fun _ _ _ h => h) (by rfl) (by intro w' hw'; have q0 := held_now hw' a1; have q1 := held_now hw' a2; go_simp) hS ?_
          (try simp only [Act.put, List.setIfInBounds_toArray, List.set_cons_zero, List.set_cons_succ])
          refine last_listL (i := 6) (by kernel_rfl) rfl (by decide) (by rfl) (fun K hK => ?_)
          go_simp
          refine (put_any b5 v x g1 g2 w0 (HA.out.1.below hS) HRG.out.1 HRG.out.2).mono ?_
          rintro e w7 ⟨rfl, hp, hq⟩
          have H7 := Lib.hid (And.intro hp (HA.out.2.trans ((hS.mono HA.out.2.size).trans (hq.below (by have := HA.out.2.size; have := hS.size; omega) (by simp; exact HB5.out)))))
          refine hK _ _ ?_
          clear hK K hp hq hS
          (try simp only [Act.put, List.setIfInBounds_toArray, List.set_cons_zero, List.set_cons_succ])
          refine wpAnyLast_done (by kernel_rfl) ?_ _
          go_wp2
          rw [← hae]
          clear hae
          rw [HNN.out]
          go_roundw
          case rel => exact ⟨k + 1, by omega, by go_num, Lib.hid ⟨by rw [HX.out]; exact H7.out.1, H7.out.2⟩⟩
          case measure => simp [intOf]; omega
        · have hnl : ¬ ((k : Int) < (s.l1.length : Int)) := by omega
          obtain rfl : k = s.l1.length := by omega
          obtain ⟨N', hN'⟩ : ∃ N', N' = N - s.l0.length := ⟨_, rfl⟩
          obtain ⟨m, hm⟩ : ∃ m, m = s.l1.length := ⟨_, rfl⟩
          obtain ⟨v, hv⟩ : ∃ v, v = tat ws (s.l0.length + s.l1.length) := ⟨_, rfl⟩
          have kN : (m : Int) < (N' : Int) := by have := HN.out.1; omega
          have p0 : (0 : Int) ≤ (m : Int) := by omega
          have cv0 := HN.out.2.1 (s.l0.length + s.l1.length) (by have := HN.out.1; omega)
          rw [← hv, ← Go.Addr.add_add, ← hm] at cv0
          have cv : wr.cell? ((ad.add s.l0.length).add m) = some (.int .i64 v) := by
            rw [HR.out.2.cell (cell_size cv0)]; exact cv0
          have c1 := HK.out.b1
          have c2 := HK.out.b2
          have c3 := HK.out.b3
          rw [← hm] at c1
          have HPU := Lib.hid (put_any b5 v (bdP s ws s.l1.length) s.a2 s.a3 wr HR.out.1 HS.out.ha (by have := bdP_bd (ws := ws) HS.out hk; omega))
          have HMV := Lib.hid (And.intro hm hv)
          rw [← hN', ← hm]
          have HNN := Lib.hid hN'
          clear hN' hm hv cv0 hk hlt hnl
          go_upto_region 16 with (first | (go_at_call 77; refine HPU.out.mono ?_; rintro e w8 ⟨rfl, hp, hq⟩; have H8 := Lib.hid (And.intro hp (HR.out.2.trans (hq.below HR.out.2.size (by simp; exact HB5.out)))); clear hp hq))
          have HR2 : Hid (BoxI w8 b5 (bdC s ws 0) ∧ Below w.heap.size w w8) := Lib.hid ⟨by have h := H8.out.1; unfold bdC bdW; rw [sumR_zero, Int.add_zero, ← HMV.out.2]; exact h, H8.out.2⟩
          have c4 := (HB.out.below H8.out.2).b4
          clear c1 c2 c3 cv
          go_wp2_with fail
          clear c4 H8 HPU HR HK
          go_loopw [86] (fun i wr => ∃ k : Nat, k ≤ s.l4.length ∧ i = .int .i64 k ∧ Hid (BoxI wr b5 (bdC s ws k) ∧ Below w.heap.size w wr)) (fun i _ => 60 - (intOf i).toNat)
          case atStart => exact ⟨0, Nat.zero_le _, rfl, HR2⟩
          case round =>
            clear HR2
            obtain ⟨k, hk, rfl, HR⟩ := hrel
            have HK := Lib.hid (HB.out.below HR.out.2)
            have hlm : s.l4.length = s.l0.length * m := by have := HS.out.len; rw [ShM.len4] at this; rw [this, HMV.out.1]; simp [ShM.sh, shL]
            have m1 : 1 ≤ m := by have := HS.out.m1; simp [ShM.sh, shL] at this; have := HMV.out.1; omega
            have l25 : s.l4.length ≤ 25 := by
              rw [hlm, HMV.out.1]
              calc s.l0.length * s.l1.length ≤ 5 * 5 := Nat.mul_le_mul HL.out.1 HL.out.2.1
                _ = 25 := rfl
            by_cases hlt3 : k < s.l4.length
            · have hlti : (k : Int) < (s.l4.length : Int) := by omega
              have p0 : (0 : Int) ≤ (k : Int) := by omega
              have p25 : (k : Int) < 25 := by omega
              obtain ⟨a0, hae, h1, h2⟩ := at_rg HK.out.rd.r4 hlt3
              obtain ⟨g1, hg1⟩ : ∃ g, g = (rgAt (s.l4.map pr) k).1 := ⟨_, rfl⟩
              obtain ⟨g2, hg2⟩ : ∃ g, g = (rgAt (s.l4.map pr) k).2 := ⟨_, rfl⟩
              rw [← hg1] at h1
              rw [← hg2] at h2
              have hRG : rgAt s.sh.cs k = (g1, g2) := by rw [hg1, hg2]; rfl
              obtain ⟨q, hq⟩ : ∃ q, q = k / m := ⟨_, rfl⟩
              obtain ⟨rr, hrr⟩ : ∃ q, q = k % m := ⟨_, rfl⟩
              have hqn : q < s.l0.length := by rw [hq]; exact Nat.div_lt_of_lt_mul (by rw [Nat.mul_comm, ← hlm]; exact hlt3)
              have hrm : rr < m := by rw [hrr]; exact Nat.mod_lt _ m1
              have hdv : Int.tdiv (k : Int) (m : Int) = (q : Int) := by rw [hq]; exact (Int.ofNat_tdiv _ _).symm
              have hmd : Int.tmod (k : Int) (m : Int) = (rr : Int) := by rw [hrr]; exact (Int.ofNat_tmod _ _).symm
              obtain ⟨wo_, hwo⟩ : ∃ v, v = tat ws q := ⟨_, rfl⟩
              obtain ⟨wp_, hwp⟩ : ∃ v, v = tat ws (s.l0.length + rr) := ⟨_, rfl⟩
              have cq0 := HN.out.2.1 q (by have := HN.out.1; omega)
              have cr0 := HN.out.2.1 (s.l0.length + rr) (by have := HN.out.1; have := HMV.out.1; omega)
              rw [← hwo] at cq0
              rw [← hwp, ← Go.Addr.add_add] at cr0
              obtain ⟨bo1, bo2⟩ := HN.out.2.2 q
              obtain ⟨bp1, bp2⟩ := HN.out.2.2 (s.l0.length + rr)
              obtain ⟨bl1, bl2⟩ := HN.out.2.2 (s.l0.length + s.l1.length)
              rw [← hwo] at bo1 bo2
              rw [← hwp] at bp1 bp2
              rw [← HMV.out.2] at bl1 bl2
              obtain ⟨x, hx⟩ : ∃ x, x = bdC s ws k := ⟨_, rfl⟩
              obtain ⟨ww, hww⟩ : ∃ x, x = wo_ + wp_ + v := ⟨_, rfl⟩
              have hrg := HS.out.hc k (by simp [ShM.sh, shL]; omega)
              rw [hRG] at hrg
              obtain ⟨cb, hcb⟩ : ∃ x, x = cellB ww (g1, g2) := ⟨_, rfl⟩
              obtain ⟨p1, hp1⟩ : ∃ x, x = -ww * g1 := ⟨_, rfl⟩
              obtain ⟨p2, hp2⟩ : ∃ x, x = -ww * g2 := ⟨_, rfl⟩
              have hwc : ww = -3 ∨ ww = -2 ∨ ww = -1 ∨ ww = 0 ∨ ww = 1 ∨ ww = 2 ∨ ww = 3 := by omega
              obtain ⟨rg1, rg2, rg3⟩ := hrg
              dsimp only at rg1 rg2 rg3
              have pb1 : -3000 ≤ p1 ∧ p1 ≤ 3000 := by rw [hp1]; rcases hwc with e | e | e | e | e | e | e <;> rw [e] <;> omega
              have pb2 : -3000 ≤ p2 ∧ p2 ≤ 3000 := by rw [hp2]; rcases hwc with e | e | e | e | e | e | e <;> rw [e] <;> omega
              have hcp : (if p2 < p1 then p2 else p1) = cb := by rw [hcb, cellB, ← hp1, ← hp2, Int.min_def]; split <;> split <;> omega
              have HLE : Hid (∀ w', Calls Tryd.prog 78 #[.int .i64 p1, .int .i64 p2] w' fun e w'' => e = .returned (.int .i64 cb) ∧ Below w'.heap.size w' w'') := Lib.hid fun w' => by
                refine (tally_least_int64.calls p1 p2 cb w' (by unfold tally_least_int64.f; rw [← hcp]; split <;> rfl)).mono ?_
                rintro e w'' ⟨he, hd⟩
                exact ⟨he, hd.below⟩
              have hxb := bdC_bd (ws := ws) HS.out HN.out.2.2 hk
              rw [← hx] at hxb
              have hcbb := cellB_bd (v := ww) (r := (g1, g2)) (by omega) ⟨rg1, rg2, rg3⟩
              rw [← hcb] at hcbb
              have HX : Hid (bdC s ws (k + 1) = x + cb) := Lib.hid (by rw [bdC, sumR_succ, hRG, ← HMV.out.1, ← hq, ← hrr, ← hwo, ← hwp, HMV.out.1, ← HMV.out.2, ← hww, ← hcb, hx, bdC, HMV.out.2]; omega)
              have HM1 : Hid (IntKind.i64.wrap (-ww * g1) = p1 ∧ IntKind.i64.wrap (-ww * g2) = p2 ∧ IntKind.i64.wrap (-ww) = -ww ∧ IntKind.i64.wrap (x + cb) = x + cb) := Lib.hid ⟨by rw [← hp1]; exact IntWalk.i64_in _ (by omega), by rw [← hp2]; exact IntWalk.i64_in _ (by omega), IntWalk.i64_in _ (by omega), IntWalk.i64_in _ (by omega)⟩
              have hw1 : IntKind.i64.wrap (wo_ + wp_) = wo_ + wp_ := IntWalk.i64_in _ (by omega)
              have hw2 : IntKind.i64.wrap (wo_ + wp_ + v) = ww := by rw [← hww]; exact IntWalk.i64_in _ (by omega)
              obtain ⟨wa, hwa⟩ : ∃ wa, wa = wr.alloc (.cells #[.int .i64 g1, .int .i64 g2] 24) := ⟨_, rfl⟩
              have hba : Below wr.heap.size wr wa := by rw [hwa]; exact (Below.refl _ _).alloc (Nat.le_refl _) _
              have a1 : wa.cell? ⟨wr.heap.size, 0, none⟩ = some (.int .i64 g1) := by rw [hwa]; simp [go_sem]
              have a2 : wa.cell? ⟨wr.heap.size, 1, none⟩ = some (.int .i64 g2) := by rw [hwa]; simp [go_sem]
              have hbw := HR.out.2.trans (hba.mono HR.out.2.size)
              have cq : wa.cell? (ad.add q) = some (.int .i64 wo_) := by rw [hbw.cell (cell_size cq0)]; exact cq0
              have cr : wa.cell? ((ad.add s.l0.length).add rr) = some (.int .i64 wp_) := by rw [hbw.cell (cell_size cr0)]; exact cr0
              have b1 := (HB.out.below hbw).b1
              rw [← HMV.out.1] at b1
              have HA := Lib.hid (And.intro (by have := HR.out.1.below hba; rw [← hx] at this; exact this : BoxI wa b5 x) hbw)
              have q0' : (0 : Int) ≤ (q : Int) := by omega
              have r0' : (0 : Int) ≤ (rr : Int) := by omega
              have qN : (q : Int) < (N : Int) := by have := HN.out.1; omega
              have rN : (rr : Int) < (N' : Int) := by have := HN.out.1; have := HNN.out; have := HMV.out.1; omega
              have hm0 : ¬ ((m : Int) = 0) := by omega
              have q5 : (q : Int) < 5 := by have := HL.out.1; omega
              have r5 : (rr : Int) < 5 := by have := HL.out.2.1; have := HMV.out.1; omega
              clear hx hg1 hg2 hRG hba hq hrr hwo hwp cq0 cr0 hww hcb hp1 hp2 hcp hwc hxb hcbb pb1 pb2 hlm hqn hrm hbw l25
              go_upto_region 19 with fail
              rw [← hwa]
              clear hwa h1 h2
              have k1 := kept_cell' cq
              have k2 := kept_cell' cr
              have k3 := kept_cell' b1
              refine wp_region_kept wa.heap.size wa (by kernel_rfl) (by kernel_rfl) (Below.refl _ _) ?_
              repeat (go_big_quiet_step (fail))
              refine wpQuiet_nil ?_
              rintro _ ⟨X, rfl⟩
              obtain ⟨V, hV⟩ : ∃ V, V = X.1 := ⟨_, rfl⟩
              have hX := X.2
              rw [← hV] at hX ⊢
              clear hV X k1 k2 k3
              have d1 := (hX.cell (cell_size a1)).trans a1
              have d2 := (hX.cell (cell_size a2)).trans a2
              have HVb := Lib.hid (And.intro (HA.out.1.below hX) (HA.out.2.trans (hX.mono HA.out.2.size)))
              have dx := HVb.out.1.cell
              clear hX a1 a2 cq cr b1
              go_upto_region 20 with fail
              have hS : Below V.heap.size V V.drew := (Below.refl _ _).drew
              refine wp_region_last_list (k := 14) rfl (fun w' => Below V.heap.size V w') [13] (by kernel_rfl) ?_
              generalize V.drew = w0 at hS ⊢
              refine take_listL (i := 0) (v := .int .i64 x) rfl (by kernel_rfl) (by kernel_rfl) (by kernel_rfl) (by kernel_rfl) (by kernel_rfl) (fun _ _ _ h => h) (by rfl) (by intro w' hw'; have q0 := held_now hw' dx; go_simp) hS ?_
              (try simp only [Act.put, List.setIfInBounds_toArray, List.set_cons_zero, List.set_cons_succ])
              refine take_listL (i := 1) (v := .int .i64 ww) rfl (by kernel_rfl) (by kernel_rfl) (by kernel_rfl) (by kernel_rfl) (by kernel_rfl) (fun _ _ _ h => h) (by rfl) (by intro w' hw'; go_simp) hS ?_
              (try simp only [Act.put, List.setIfInBounds_toArray, List.set_cons_zero, List.set_cons_succ])
              refine take_listL (i := 2) (v := .int .i64 (-ww)) rfl (by kernel_rfl) (by kernel_rfl) (by kernel_rfl) (by kernel_rfl) (by kernel_rfl) (fun _ _ _ h => h) (by rfl) (by intro w' hw'; go_simp; exact HM1.out.2.2.1) hS ?_
              (try simp only [Act.put, List.setIfInBounds_toArray, List.set_cons_zero, List.set_cons_succ])
              refine take_listL (i := 3) (v := .pointer (some ⟨wr.heap.size, 0, none⟩)) rfl (by kernel_rfl) (by kernel_rfl) (by kernel_rfl) (by kernel_rfl) (by kernel_rfl) (fun _ _ _ h => h) (by rfl) (by intro w' hw'; go_simp) hS ?_
              (try simp only [Act.put, List.setIfInBounds_toArray, List.set_cons_zero, List.set_cons_succ])
              refine take_listL (i := 4) (v := .int .i64 g1) rfl (by kernel_rfl) (by kernel_rfl) (by kernel_rfl) (by kernel_rfl) (by kernel_rfl) (fun _ _ _ h => h) (by rfl) (by intro w' hw'; have q0 := held_now hw' d1; go_simp) hS ?_
              (try simp only [Act.put, List.setIfInBounds_toArray, List.set_cons_zero, List.set_cons_succ])
              refine take_listL (i := 5) (v := .int .i64 p1) rfl (by kernel_rfl) (by kernel_rfl) (by kernel_rfl) (by kernel_rfl) (by kernel_rfl) (fun _ _ _ h => h) (by rfl) (by intro w' hw'; go_simp; exact HM1.out.1) hS ?_
              (try simp only [Act.put, List.setIfInBounds_toArray, List.set_cons_zero, List.set_cons_succ])
              refine take_listL (i := 6) (v := .int .i64 ww) rfl (by kernel_rfl) (by kernel_rfl) (by kernel_rfl) (by kernel_rfl) (by kernel_rfl) (fun _ _ _ h => h) (by rfl) (by intro w' hw'; go_simp) hS ?_
              (try simp only [Act.put, List.setIfInBounds_toArray, List.set_cons_zero, List.set_cons_succ])
              refine take_listL (i := 7) (v := .int .i64 (-ww)) rfl (by kernel_rfl) (by kernel_rfl) (by kernel_rfl) (by kernel_rfl) (by kernel_rfl) (fun _ _ _ h => h) (by rfl) (by intro w' hw'; go_simp; exact HM1.out.2.2.1) hS ?_
              (try simp only [Act.put, List.setIfInBounds_toArray, List.set_cons_zero, List.set_cons_succ])
              refine take_listL (i := 8) (v := .pointer (some ⟨wr.heap.size, 1, none⟩)) rfl (by kernel_rfl) (by kernel_rfl) (by kernel_rfl) (by kernel_rfl) (by kernel_rfl) (fun _ _ _ h => h) (by rfl) (by intro w' hw'; go_simp) hS ?_
              (try simp only [Act.put, List.setIfInBounds_toArray, List.set_cons_zero, List.set_cons_succ])
              refine take_listL (i := 9) (v := .int .i64 g2) rfl (by kernel_rfl) (by kernel_rfl) (by kernel_rfl) (by kernel_rfl) (by kernel_rfl) (fun _ _ _ h => h) (by rfl) (by intro w' hw'; have q0 := held_now hw' d2; go_simp) hS ?_
              (try simp only [Act.put, List.setIfInBounds_toArray, List.set_cons_zero, List.set_cons_succ])
              refine take_listL (i := 10) (v := .int .i64 p2) rfl (by kernel_rfl) (by kernel_rfl) (by kernel_rfl) (by kernel_rfl) (by kernel_rfl) (fun _ _ _ h => h) (by rfl) (by intro w' hw'; go_simp; exact HM1.out.2.1) hS ?_
              (try simp only [Act.put, List.setIfInBounds_toArray, List.set_cons_zero, List.set_cons_succ])
              refine step_listL (i := 11) (by kernel_rfl) rfl (by decide) (by rfl) (fun K hK => ?_)
              go_simp
              refine (HLE.out _).mono ?_
              rintro e w6 ⟨rfl, h6⟩
              have hS6 : Below V.heap.size V w6 := hS.trans (h6.mono hS.size)
              refine hK _ _ hS6 ?_
              clear hK K h6 hS
              have hS := hS6
              clear hS6
              (try simp only [Act.put, List.setIfInBounds_toArray, List.set_cons_zero, List.set_cons_succ])
              refine take_listL (i := 12) (v := .int .i64 (x + cb)) rfl (by kernel_rfl) (by kernel_rfl) (by kernel_rfl) (by kernel_rfl) (by kernel_rfl) (fun _ _ _ h => h) (by rfl) (by intro w' hw'; go_simp; exact HM1.out.2.2.2) hS ?_
              (try simp only [Act.put, List.setIfInBounds_toArray, List.set_cons_zero, List.set_cons_succ])
              refine last_listL (i := 13) (by kernel_rfl) rfl (by decide) (by rfl) (fun K hK => ?_)
              have h7 := HVb.out.1.below hS
              have c7 := h7.cell
              have f7 := h7.free
              go_simp
              have HEND := Lib.hid (And.intro (h7.set (x + cb)) (below_setB (p := ⟨b5, 0, none⟩) (HVb.out.2.trans (hS.mono HVb.out.2.size)) HB5.out (.int .i64 (x + cb))))
              refine hK _ _ ?_
              clear hK K hS h7 c7 f7
              (try simp only [Act.put, List.setIfInBounds_toArray, List.set_cons_zero, List.set_cons_succ])
              refine wpAnyLast_done (by kernel_rfl) ?_ _
              go_wp2
              rw [← hae]
              clear hae
              go_roundw
              case rel => exact ⟨k + 1, by omega, by go_num, Lib.hid ⟨by rw [HX.out]; exact HEND.out.1, HEND.out.2⟩⟩
              case measure => simp [intOf]; omega
            · have hnl : ¬ ((k : Int) < (s.l4.length : Int)) := by omega
              obtain rfl : k = s.l4.length := by omega
              have cx := HR.out.1.cell
              clear hlm
              go_wp2_with fail
              go_ret
              exact ⟨by rw [bd_end HS.out]; rfl, HR.out.2⟩
abbrev rch := reachS Lk.fr Lk.to_
def okG (c : Int) (x : Lk) : Bool :=
  !(decide (0 < x.wr) || (decide (c ≠ -1) && decide (x.cell = c)) || (decide (c = -1) && (decide (x.fr ≠ x.to_) && ((decide (x.fr = boomN) && decide (x.to_ = gateN)) || (decide (x.fr = gateN) && decide (x.to_ = boomN))))))
theorem okL_is (S : Sh) (κ : Kn) (x : Lk) : okL S κ x = okG (κ.cell S.m) x := rfl
def stepG (c : Int) (s : Sr (Int × Int) Lk) (x : Lk) : Sr (Int × Int) Lk := if okG c x = true then rch s x else s
theorem foldG (c : Int) : ∀ (L : List Lk) (s : Sr (Int × Int) Lk), L.foldl (stepG c) s = (L.filter (okG c)).foldl rch s
  | [], s => rfl
  | x :: L, s => by
    rw [List.foldl_cons, List.filter_cons, foldG c L]
    by_cases h : okG c x = true
    · rw [if_pos h, List.foldl_cons, stepG, if_pos h]
    · rw [if_neg h, stepG, if_neg h]
def OkS (s : Sr (Int × Int) Lk) : Prop := ∀ v x, s.bef v = some x → Good x
theorem OkS.rch {s : Sr (Int × Int) Lk} {x : Lk} (h : OkS s) (hx : Good x) : OkS (rch s x) := by
  unfold Hand.rch reachS
  split
  · intro v y hy
    simp only [upd] at hy
    split at hy
    · cases hy; exact hx
    · exact h v y hy
  · exact h
theorem OkS.step {c : Int} {s : Sr (Int × Int) Lk} {x : Lk} (h : OkS s) (hx : Good x) : OkS (stepG c s x) := by
  unfold stepG; split
  · exact h.rch hx
  · exact h
theorem OkS.fold (c : Int) : ∀ (L : List Lk) {s : Sr (Int × Int) Lk}, (∀ x ∈ L, Good x) → OkS s → OkS (L.foldl (stepG c) s)
  | [], _, _, h => h
  | x :: L, _, hL, h => OkS.fold c L (fun y hy => hL y (by simp [hy])) (h.step (hL x (by simp)))
theorem movedG_le (c : Int) : ∀ (L : List Lk) (s : Sr (Int × Int) Lk), (L.foldl (stepG c) s).moved ≤ s.moved + L.length
  | [], s => by simp
  | x :: L, s => by
    have h1 := movedG_le c L (stepG c s x)
    have h2 : (stepG c s x).moved ≤ s.moved + 1 := by
      unfold stepG rch reachS
      split <;> (try split) <;> simp
    rw [List.foldl_cons, List.length_cons]; omega
theorem good0 : Good lk0 := ⟨ok_zero, ok_zero, by simp [lk0], by simp [lk0], by simp [lk0], by simp [lk0]⟩
theorem OkS.get {s : Sr (Int × Int) Lk} (h : OkS s) (v : Int × Int) : Good ((s.bef v).getD lk0) := by
  cases hb : s.bef v with
  | none => exact good0
  | some x => exact h v x hb
theorem oks0 (src : Int × Int) : OkS (sr0 src) := fun v x h => by
  simp only [sr0, upd] at h
  split at h
  · cases h; exact good0
  · cases h
theorem eql_node2 (W : World) (a b c d : Int) : (binOp .eql 92 (.agg #[.int .i64 a, .int .i64 b]) (.agg #[.int .i64 c, .int .i64 d])).run Tryd.prog W = .ok (.bool (decide (((a, b) : Int × Int) = (c, d)))) W := by
  rw [eql_node]
  by_cases h1 : a = c <;> by_cases h2 : b = d <;> simp [h1, h2]
theorem neq_node2 (W : World) (a b c d : Int) : (binOp .neq 92 (.agg #[.int .i64 a, .int .i64 b]) (.agg #[.int .i64 c, .int .i64 d])).run Tryd.prog W = .ok (.bool (decide (¬ ((a, b) : Int × Int) = (c, d)))) W := by
  have hu1 := Tryd.underlying92
  go_simp
  by_cases h1 : a = c <;> by_cases h2 : b = d <;> simp [h1, h2]
def BoxN (W : World) (b : Nat) (x : Int) : Prop := W.heap[b]? = some (.cells #[.int .i64 x] 3 (0, 0))
theorem BoxN.cell {W : World} {b : Nat} {x : Int} (h : BoxN W b x) : W.cell? ⟨b, 0, none⟩ = some (.int .i64 x) := by rw [cell_of_row W _ _ _ _ _ h]; rfl
theorem BoxN.free {W : World} {b : Nat} {x : Int} (h : BoxN W b x) : W.frozen? ⟨b, 0, none⟩ = false := frozen_of_row W _ 0 _ _ h
theorem BoxN.set {W : World} {b : Nat} {x : Int} (h : BoxN W b x) (y : Int) : BoxN (W.setCell ⟨b, 0, none⟩ (.int .i64 y)) b y := heap_setCell_same W b 0 _ _ (.int .i64 y) h
structure AtW (w : World) (b5 b6 b7 b9 Mb : Nat) (src dst : Int × Int) (c : Int) (bef : Int × Int → Option Lk) (rs : List Nat) (W : World) : Prop where
  below : Below w.heap.size w W
  n5 : NodeAt W b5 src
  n6 : NodeAt W b6 dst
  c7 : BoxN W b7 c
  c9 : W.cell? ⟨b9, 0, none⟩ = some (.map (some Mb))
  bef : BefAt W Mb bef
  nd : rs.Nodup
  marks : ∀ r ∈ rs, w.heap.size ≤ r ∧ W.heap[r]? = some (.deferred (some []))
structure NeW (w : World) (b5 b6 b7 b9 Mb : Nat) : Prop where
  l5 : w.heap.size ≤ b5
  l6 : w.heap.size ≤ b6
  l7 : w.heap.size ≤ b7
  l9 : w.heap.size ≤ b9
  lM : w.heap.size ≤ Mb
  n5 : b5 ≠ Mb
  n6 : b6 ≠ Mb
  n7 : b7 ≠ Mb
  n9 : b9 ≠ Mb
section
variable {w W W' : World} {b5 b6 b7 b9 Mb b10 : Nat} {src dst : Int × Int} {c : Int} {bef bef' : Int × Int → Option Lk} {rs : List Nat}
theorem AtW.grow (h : AtW w b5 b6 b7 b9 Mb src dst c bef rs W) (hb : Below W.heap.size W W') : AtW w b5 b6 b7 b9 Mb src dst c bef rs W' :=
  ⟨h.below.trans (hb.mono h.below.size), h.n5.of_heap (hb.block _ (heap_lt h.n5)), h.n6.of_heap (hb.block _ (heap_lt h.n6)), (hb.block _ (heap_lt h.c7)).trans h.c7, (hb.cell (cell_size h.c9)).trans h.c9,
    MapAt.of_heap h.bef (hb.block _ (MapAt.lt h.bef)), h.nd, fun r hr => ⟨(h.marks r hr).1, (hb.block _ (heap_lt (h.marks r hr).2)).trans (h.marks r hr).2⟩⟩
theorem AtW.hole (h : AtW w b5 b6 b7 b9 Mb src dst c bef rs W) (hn : NeW w b5 b6 b7 b9 Mb) (hh : HoleL [Mb, b10] W.heap.size W W') (h10 : w.heap.size ≤ b10 ∧ b10 ≠ b5 ∧ b10 ≠ b6 ∧ b10 ≠ b7 ∧ b10 ≠ b9 ∧ ∀ r ∈ rs, r ≠ b10) (hb : BefAt W' Mb bef') : AtW w b5 b6 b7 b9 Mb src dst c bef' rs W' := by
  have hk : ∀ k, k < W.heap.size → k ≠ Mb → k ≠ b10 → W'.heap[k]? = W.heap[k]? := fun k hk a b => hh.block k hk (by simp; exact ⟨a, b⟩)
  obtain ⟨g0, g5, g6, g7, g9, gr⟩ := h10
  refine ⟨h.below.trans (hh.below h.below.size (by simp; exact ⟨hn.lM, g0⟩)), h.n5.of_heap (hk _ (heap_lt h.n5) hn.n5 (Ne.symm g5)), h.n6.of_heap (hk _ (heap_lt h.n6) hn.n6 (Ne.symm g6)), (hk _ (heap_lt h.c7) hn.n7 (Ne.symm g7)).trans h.c7, ?_, hb, h.nd, fun r hr => ?_⟩
  · rw [World.cell?_of_block (w := W) (hk b9 (cell_size h.c9) hn.n9 (Ne.symm g9))]; exact h.c9
  · obtain ⟨m1, m2⟩ := h.marks r hr
    refine ⟨m1, (hk r (heap_lt m2) ?_ (gr r hr)).trans m2⟩
    rintro rfl
    obtain ⟨es, cc, ho⟩ := MapAt.obj h.bef
    rw [ho] at m2; cases m2
theorem AtW.mark (h : AtW w b5 b6 b7 b9 Mb src dst c bef rs W) {D : Nat} (hD : w.heap.size ≤ D) (hr : ∀ r ∈ rs, r < D) (hDm : W.heap[D]? = some (.deferred (some []))) : AtW w b5 b6 b7 b9 Mb src dst c bef (D :: rs) W :=
  ⟨h.below, h.n5, h.n6, h.c7, h.c9, h.bef, List.nodup_cons.2 ⟨fun hm => by have := hr D hm; omega, h.nd⟩, fun r hr' => by
    rcases List.mem_cons.1 hr' with rfl | hr'
    · exact ⟨hD, hDm⟩
    · exact h.marks r hr'⟩
end
structure InW (W1 : World) (Mb b10 : Nat) (s : Sr (Int × Int) Lk) (W : World) : Prop where
  bef : BefAt W Mb s.bef
  a10 : BoxN W b10 (s.moved : Int)
  hole : HoleL [Mb, b10] W1.heap.size W1 W
theorem InW.own {β : Type} {W1 : World} {Mb b10 : Nat} (hMb : Mb < W1.heap.size) (h10 : b10 < W1.heap.size) (f : β → Sr (Int × Int) Lk) : OwnFrom W1.heap.size (fun (x : β) W => InW W1 Mb b10 (f x) W) := fun s X Y row hs hg hr => by
  have hb : ∀ k, k < W1.heap.size → Y.heap[k]? = X.heap[k]? := fun k hk => hg.block k (by have := hs.hole.size; omega) (fun e => by have := (hr k e.symm).1; omega)
  exact ⟨MapAt.of_heap hs.bef (hb _ hMb), (hb _ h10).trans hs.a10, hole_own (β := Unit) W1 (Nat.le_refl _) (Nat.le_refl _) () X Y row hs.hole hg hr⟩
theorem InW.grow {W1 W W' : World} {Mb b10 : Nat} {s : Sr (Int × Int) Lk} (h : InW W1 Mb b10 s W) (hb : Below W.heap.size W W') : InW W1 Mb b10 s W' :=
  ⟨MapAt.of_heap h.bef (hb.block _ (MapAt.lt h.bef)), (hb.block _ (heap_lt h.a10)).trans h.a10, h.hole.trans (HoleL.of_below hb (Nat.le_refl _)) h.hole.size⟩
theorem wpIn_cut {P : Program} {F : Fence} {n : Nat} {s : Code} {K : Act → World → Prop} {Q' : Exit → Act → World → Prop} {a : Act} {w : World} (R : Act → World → Prop)
    (rest : ∀ a' w', R a' w' → K a' w') (first : s.wpIn F n P (Exit.then R Q') a w) : s.wpIn F n P (Exit.then K Q') a w :=
  wpIn_mono first fun e a' w' hq => by
    cases e with
    | normal => exact rest _ _ hq
    | exit id => exact hq
    | goto l => exact hq
    | ret => exact hq
    | panic ch => exact hq
    | outgrown => exact hq
theorem flood_next {ls : List Lk} {src : Int × Int} {nodes : List (Int × Int)} (hnodes : ∀ x ∈ ls, x.to_ ∈ nodes) {k : Nat} {s : Sr (Int × Int) Lk} {D : List (Int × Int)} {T : Int × Int → Nat} (h : SrInv Lk.fr Lk.to_ ls src nodes s D T) (hk : nodes.length < D.length + k) :
    ∃ k', k = k' + 1 ∧ ∃ D' T', SrInv Lk.fr Lk.to_ ls src nodes (roundS Lk.fr Lk.to_ ls s) D' T' ∧
      ((roundS Lk.fr Lk.to_ ls s).moved = 0 ∧ floodS Lk.fr Lk.to_ ls k s = roundS Lk.fr Lk.to_ ls s ∨ (roundS Lk.fr Lk.to_ ls s).moved ≠ 0 ∧ floodS Lk.fr Lk.to_ ls k s = floodS Lk.fr Lk.to_ ls k' (roundS Lk.fr Lk.to_ ls s) ∧ nodes.length < D'.length + k') := by
  obtain ⟨k', rfl⟩ : ∃ k', k = k' + 1 := by
    cases k with
    | zero => have := nodup_le D nodes h.nd h.sub; omega
    | succ k => exact ⟨k, rfl⟩
  obtain ⟨D', T', h1, e⟩ := srInv_round hnodes h
  refine ⟨k', rfl, D', T', h1, ?_⟩
  rw [floodS]
  by_cases g : (roundS Lk.fr Lk.to_ ls s).moved = 0
  · left; exact ⟨g, by rw [if_pos g]⟩
  · right; exact ⟨g, by rw [if_neg g], by omega⟩
end Go.Proofs.YtcbhnhoicecnnaaDoor.Hand
namespace Go.Proofs.YtcbhnhoicecnnaaDoor.Hand
set_option linter.unusedVariables false
set_option linter.unusedSimpArgs false
open Go.RowKit Go.Shelf Go.Maps Go.ChangeMaps Go.Proofs.YtcbhnhoicecnnaaDoorW.PrintWords Go.Proofs.YtcbhnhoicecnnaaDoorW.PrintLast Go.Proofs.YtcbhnhoicecnnaaDoorW.PrintMore Go.Proofs.YtcbhnhoicecnnaaDoor.PrK
structure Rng (W : World) (M r : Nat) (es : Array MapEntry) (clock since c0 : Nat) (seen : Array Nat) : Prop where
  m : W.heap[M]? = some (.map es clock)
  it : W.heap[r]? = some (.mapIter (some M) since seen c0)
  hold : ∀ x ∈ es.toList, x.born < since
  hsc : since ≤ c0
  hsk : since ≤ clock
  st : MapKept.Stamped es clock
  keys : ∀ e ∈ es.toList, ∃ k, okN k ∧ e.key = nodeV k
theorem Rng.below {W W' : World} {M r : Nat} {es : Array MapEntry} {clock since c0 : Nat} {seen : Array Nat} (h : Rng W M r es clock since c0 seen) (hb : Below W.heap.size W W') : Rng W' M r es clock since c0 seen :=
  ⟨(hb.block _ (heap_lt h.m)).trans h.m, (hb.block _ (heap_lt h.it)).trans h.it, h.hold, h.hsc, h.hsk, h.st, h.keys⟩
theorem Rng.kept {W W' : World} {M r b : Nat} {es : Array MapEntry} {clock since c0 : Nat} {seen : Array Nat} (h : Rng W M r es clock since c0 seen) (hg : W.grownBy W' (some b)) (hM : M ≠ b) (hr : r ≠ b) : Rng W' M r es clock since c0 seen :=
  ⟨(hg.block _ (heap_lt h.m) (fun e => hM (by cases e; rfl))).trans h.m, (hg.block _ (heap_lt h.it) (fun e => hr (by cases e; rfl))).trans h.it, h.hold, h.hsc, h.hsk, h.st, h.keys⟩
theorem Rng.ne {W : World} {M r : Nat} {es : Array MapEntry} {clock since c0 : Nat} {seen : Array Nat} (h : Rng W M r es clock since c0 seen) : r ≠ M := by
  rintro rfl
  have := h.it
  rw [h.m] at this; cases this
theorem rng_new {W : World} {M : Nat} {F : Int × Int → Option Value} (h : MapAt W M F) :
    ∃ es clock W', (Instr.range 116 (.map (some M))).run Tryd.prog W = .ok (.pointer (some ⟨W.heap.size, 0, none⟩)) W' ∧ Rng W' M W.heap.size es clock clock clock #[] ∧ Below W.heap.size W W' ∧ W'.heap.size = W.heap.size + 1 ∧ W.heap[M]? = some (.map es clock) := by
  obtain ⟨es, clock, hb, hk, hs, -⟩ := h.ex
  refine ⟨es, clock, _, run_range_map W 116 92 114 M es clock Tryd.underlying116 hb, ?_, (Below.refl _ _).alloc (Nat.le_refl _) _, by simp, hb⟩
  exact ⟨heap_past hb _, heap_alloc_last _ _, hs.1, Nat.le_refl _, Nat.le_refl _, hs, hk⟩
theorem Rng.next {W : World} {M r : Nat} {es : Array MapEntry} {clock since c0 : Nat} {seen : Array Nat} (h : Rng W M r es clock since c0 seen) (ty : TypeId) :
    ((leftOf es seen).size = 0 ∧ (Instr.next (.pointer (some ⟨r, 0, none⟩)) false ty).run Tryd.prog W = .ok (.tuple #[.bool false]) W) ∨
    ∃ e k W', e ∈ (leftOf es seen).toList ∧ okN k ∧ e.key = nodeV k ∧ (Instr.next (.pointer (some ⟨r, 0, none⟩)) false ty).run Tryd.prog W = .ok (.tuple #[.bool true, nodeV k, e.val]) W' ∧
      Rng W' M r es clock since clock (seen.push e.born) ∧ W.grownBy W' (some r) ∧ W'.heap.size = W.heap.size ∧ (Instr.entry (.pointer (some ⟨r, 0, none⟩))).run Tryd.prog W' = .ok (.tuple #[nodeV k, e.val]) W' := by
  have hne := h.ne
  rcases run_next_at (P := Tryd.prog) W ty r M since c0 seen es clock h.it h.m h.hold h.hsc with ⟨h0, hrun⟩ | ⟨e, he, w1, hal, hrun⟩
  · exact .inl ⟨h0, hrun⟩
  · obtain ⟨hem, hes⟩ := mem_left he
    obtain ⟨k, okk, hk⟩ := h.keys e hem
    have hr1 : w1.heap[r]? = some (.mapIter (some M) since seen c0) := by rcases hal with rfl | rfl <;> exact h.it
    have hb1 : w1.heap[M]? = some (.map es clock) := by rcases hal with rfl | rfl <;> exact h.m
    have hset := MapKept.heap_set (o' := .mapIter (some M) since (seen.push e.born) clock) hr1
    have hb' : (setBlock w1 r (.mapIter (some M) since (seen.push e.born) clock)).heap[M]? = some (.map es clock) := (hset.2 M (fun e1 => hne e1.symm)).trans hb1
    refine .inr ⟨e, k, _, he, okk, hk, by rw [← hk]; exact hrun, ⟨hb', hset.1, h.hold, h.hsk, h.hsk, h.st, h.keys⟩, ?_, ?_, ?_⟩
    · rcases hal with rfl | rfl <;> exact ⟨rfl, rfl, rfl, by simp [setBlock], fun i _ hi => hset.2 i (fun e1 => hi (by rw [e1]))⟩
    · rcases hal with rfl | rfl <;> simp [setBlock]
    · rw [← hk]
      exact run_entry_at _ r M since seen es clock e hset.1 hb' hem ((MapKept.stamped_iff es clock).1 h.st).2.1
theorem Rng.del {W : World} {M r : Nat} {es : Array MapEntry} {clock since c0 : Nat} {seen : Array Nat} {e : MapEntry} {k : Int × Int} (h : Rng W M r es clock since c0 (seen.push e.born)) (he : e ∈ (leftOf es seen).toList) (okk : okN k) (hk : e.key = nodeV k) (ty : TypeId)
    (hu : ∀ x ∈ es.toList, seen.contains x.born = false) :
    ∃ es' W', (Builtin.delete_ #[116, 92] ty #[.map (some M), nodeV k]).run Tryd.prog W = .ok (.tuple #[]) W' ∧ Rng W' M r es' clock since c0 (seen.push e.born) ∧ W.grownBy W' (some M) ∧ es'.size < es.size ∧
      (∀ x ∈ es'.toList, x ∈ es.toList) ∧ ∀ x ∈ es'.toList, (seen.push e.born).contains x.born = false := by
  obtain ⟨hem, hes⟩ := mem_left he
  have hkey := okN_key okk
  rcases node_law.find W hkey es.toList (keyed h.keys) with ⟨g1, g2⟩ | ⟨j, e0, g1, g2, g3⟩
  · exact absurd hk (g2 e hem)
  · have e0e : e0 = e := one_key h.st (List.mem_of_getElem? g2) hem (g3.trans hk.symm)
    subst e0e
    have hjl : j < es.toList.length := (List.getElem?_eq_some_iff.1 g2).1
    have hjs : j < es.size := by simpa using hjl
    have hsub : (es.eraseIdxIfInBounds j).toList = es.toList.eraseIdx j := by
      unfold Array.eraseIdxIfInBounds
      rw [dif_pos hjs]
      simp
    have hmem : ∀ x ∈ (es.eraseIdxIfInBounds j).toList, x ∈ es.toList := fun x hx => by rw [hsub] at hx; exact (List.eraseIdx_sublist _ _).subset hx
    refine ⟨es.eraseIdxIfInBounds j, setBlock W M (.map (es.eraseIdxIfInBounds j) clock), ?_, ⟨heap_setBlock_same h.m _, (heap_setBlock_other h.m _ h.ne).trans h.it, fun x hx => h.hold x (hmem x hx), h.hsc, h.hsk, MapKept.stamped_erase h.st j, fun x hx => h.keys x (hmem x hx)⟩, grown_setBlock h.m, ?_, hmem, fun x hx => ?_⟩
    · simp [Builtin.delete_, run_underlying Tryd.underlying116, MapKept.run_getObj_map h.m, node_law.check W _ hkey, g1, MapKept.run_setObj_map _ h.m, Result.andThen, setBlock]
    · have : (es.eraseIdxIfInBounds j).toList.length = es.toList.length - 1 := by rw [hsub, List.length_eraseIdx_of_lt hjl]
      simp only [Array.length_toList] at this
      omega
    · rw [contains_push]
      have h1 := hu x (hmem x hx)
      rw [h1, Bool.false_or]
      cases hc : (x.born == e0.born) with
      | false => rfl
      | true =>
        have hb := beq_iff_eq.1 hc
        have hxe : x = e0 := Go.born_inj ((MapKept.stamped_iff es clock).1 h.st).2.1 (hmem x hx) hem hb
        subst hxe
        rw [hsub, List.mem_eraseIdx_iff_getElem?] at hx
        obtain ⟨i, hne, hi⟩ := hx
        have hnd := ((MapKept.stamped_iff es clock).1 h.st).2.1
        exfalso
        apply hne
        have hil := (List.getElem?_eq_some_iff.1 hi).1
        have hp := List.pairwise_iff_getElem.1 hnd
        have hb1 : es.toList[i] = es.toList[j] := (List.getElem?_eq_some_iff.1 hi).2.trans (List.getElem?_eq_some_iff.1 g2).2.symm
        rcases Nat.lt_trichotomy i j with hlt | heq | hlt
        · exact absurd (by rw [List.getElem_map, List.getElem_map, hb1]) (hp i j (by simpa using hil) (by simpa using hjl) hlt)
        · exact heq
        · exact absurd (by rw [List.getElem_map, List.getElem_map, hb1]) (hp j i (by simpa using hjl) (by simpa using hil) hlt)
theorem Rng.none {W : World} {M r : Nat} {es : Array MapEntry} {clock since c0 : Nat} {seen : Array Nat} (h : Rng W M r es clock since c0 seen) {k : Int × Int} (okk : okN k) (hn : ∀ e ∈ es.toList, e.key ≠ nodeV k) :
    (Instr.lookup 116 (.map (some M)) (nodeV k) true).run Tryd.prog W = .ok (.tuple #[lkV lk0, .bool false]) W := by
  have hkey := okN_key okk
  rcases node_law.find W hkey es.toList (keyed h.keys) with ⟨g1, g2⟩ | ⟨j, e0, g1, g2, g3⟩
  · simp [Instr.lookup, run_underlying Tryd.underlying116, MapKept.run_getObj_map h.m, node_law.check W _ hkey, g1, zeroLk W, Result.andThen]
  · exact absurd g3 (hn e0 (List.mem_of_getElem? g2))
theorem no_key {W : World} {M : Nat} {bef : Int × Int → Option Lk} (h : BefAt W M bef) {es : Array MapEntry} {clock : Nat} (hM : W.heap[M]? = some (.map es clock)) {k : Int × Int} (okk : okN k) (hk : bef k = Option.none) : ∀ e ∈ es.toList, e.key ≠ nodeV k := by
  obtain ⟨es', clock', hb, _, _, hF⟩ := MapAt.ex h
  rw [hM] at hb
  obtain ⟨rfl, rfl⟩ : es = es' ∧ clock = clock' := by
    have := Option.some.inj hb
    injection this with a b
    exact ⟨a, b⟩
  rcases hF k okk with ⟨e, _, _, he⟩ | ⟨h1, _⟩
  · rw [hk] at he; cases he
  · exact h1
theorem wpList_push_own {ops : Array Oper} {rest : List Oper} {o : Oper} {a : Act} {w : World} {Q : Exit → Act → World → Prop} (hgd : o.guard = Option.none) (s x : Operand)
    (hop : o.op = Op.call { callee := Callee.builtin Builtin.append, args := #[s, x], argTypes := #[106, 106] }) (base : Nat) (A : Option Addr) (c : Nat) (acc : List Lk) (y : Lk) {n : Nat} (hs : a.eval s = .slice A n c) (hown : w.ownsRow base 114 8 (.slice A n c) n (lksC acc))
    (g : Nat) (hx : a.eval x = .slice (some ⟨g, 0, Option.none⟩) 1 1) (hc : w.heap[g]? = some (.cells (lksC [y]).toArray 114 (0, 0))) (hmax : n < 1000) (hbase : base ≤ w.heap.size)
    (hK : ∀ A' c' w', w'.ownsRow base 114 8 (.slice A' (n + 1) c') (n + 1) (lksC (acc ++ [y])) → w.grownBy w' (Value.ownBlock (.slice A n c)) → wpList Tryd.prog ops Q rest (a.put o.dst (.slice A' (n + 1) c')) w') : wpList Tryd.prog ops Q (o :: rest) a w := by
  obtain ⟨il, hil, hl0, hl1, hl2⟩ := info_parts infoLk
  refine wpList_plain hgd fun K hK' => ?_
  refine wp_append_own w s x 106 hop base 114 il (lkV lk0) 8 64 Tryd.underlying106 hil hl0 hl1 hl2 rfl (by decide) _ n (lksC acc) hs hown ⟨g, 0, Option.none⟩ 1 1 (lksC [y]) hx (by rw [lksC_length]; rfl) (cells_of_row hc) (lks_one _) (by unfold maxLen; omega) (by omega) hbase ?_
  intro v' w' h1 h2 _
  obtain ⟨A', c', rfl⟩ := own_opened h1
  exact hK' _ _ (hK A' c' w' (by rw [lksC_append]; exact h1) h2)
theorem own_lt {w : World} {base n : Nat} {e : TypeId} {size : Nat} {v : Value} {xs : List Value} (h : w.ownsRow base e size v n xs) {j : Nat} (hj : v.ownBlock = some j) : j < w.heap.size := by
  rcases h.2 with ⟨rfl, _⟩ | ⟨g, cap, cur, rfl, _, hh, _⟩
  · cases hj
  · cases hj; exact heap_lt hh
theorem own_setOther {w : World} {base n : Nat} {e : TypeId} {size : Nat} {v : Value} {xs : List Value} {p : Addr} (h : w.ownsRow base e size v n xs) (hp : v.ownBlock ≠ some p.block) (u : Value) : (w.setCell p u).ownsRow base e size v n xs := by
  refine ⟨h.1, ?_⟩
  rcases h.2 with h2 | ⟨g, cap, cur, rfl, hg, hh, hr⟩
  · exact .inl h2
  · exact .inr ⟨g, cap, cur, rfl, hg, heap_far hh (fun e => hp (by rw [← e]; rfl)) u, hr⟩
theorem own_node {w : World} {base n : Nat} {size : Nat} {v : Value} {xs : List Value} {b : Nat} {k : Int × Int} (h : w.ownsRow base 114 size v n xs) (hn : NodeAt w b k) : some b ≠ v.ownBlock := by
  intro e
  rcases h.2 with ⟨rfl, _⟩ | ⟨g, cap, cur, rfl, hg, hh, hr⟩
  · cases e
  · cases e
    unfold NodeAt at hn
    rw [hn] at hh
    injection hh with hh
    injection hh with h1 h2 h3
    exact absurd h2 (by decide)
theorem AtW.leave {w W V : World} {b5 b6 b7 b9 Mb r : Nat} {src dst : Int × Int} {c : Int} {bef : Int × Int → Option Lk} {rs : List Nat} {since c0 : Nat} {seen : Array Nat} (h : AtW w b5 b6 b7 b9 Mb src dst c bef rs W) (hn : NeW w b5 b6 b7 b9 Mb) (hr : W.heap[r]? = some (.mapIter (some Mb) since seen c0)) (hwr : w.heap.size ≤ r) (hh : HoleL [Mb, r] W.heap.size W V) :
    (∀ x ∈ rs, V.heap[x]? = some (.deferred (some []))) ∧ Below w.heap.size w V := by
  refine ⟨fun x hx => ?_, h.below.trans (hh.below h.below.size (by simp; exact ⟨hn.lM, hwr⟩))⟩
  obtain ⟨m1, m2⟩ := h.marks x hx
  refine (hh.block x (heap_lt m2) ?_).trans m2
  simp only [List.mem_cons, List.not_mem_nil, or_false, not_or]
  refine ⟨?_, ?_⟩
  · rintro rfl
    obtain ⟨es, cc, ho⟩ := MapAt.obj h.bef
    rw [ho] at m2; cases m2
  · rintro rfl
    rw [hr] at m2; cases m2
theorem below_marks {w V V' : World} {rs : List Nat} (hb : Below w.heap.size w V) (hm : ∀ x ∈ rs, w.heap.size ≤ x) (hk : ∀ k, k ∉ rs → V'.heap[k]? = V.heap[k]?) (ho : V'.os = V.os) (ht : V'.tape = V.tape) (hu : V'.output = V.output) (hs : V'.heap.size = V.heap.size) : Below w.heap.size w V' :=
  ⟨ho.trans hb.os, ht.trans hb.tape, hu.trans hb.output, by rw [hs]; exact hb.size, fun k hk2 => (hk k (fun h => by have := hm k h; omega)).trans (hb.block k hk2)⟩
end Go.Proofs.YtcbhnhoicecnnaaDoor.Hand
namespace Go.Proofs.YtcbhnhoicecnnaaDoor.Hand
set_option linter.unusedVariables false
set_option linter.unusedSimpArgs false
open Go.RowKit Go.Shelf Go.Maps Go.Proofs.YtcbhnhoicecnnaaDoorW.PrintWords Go.Proofs.YtcbhnhoicecnnaaDoorW.PrintLast Go.Proofs.YtcbhnhoicecnnaaDoorW.PrintMore Go.Proofs.YtcbhnhoicecnnaaDoor.PrK
attribute [local go_sem] Oper.semAt_some
set_option maxHeartbeats 8000000 in
set_option maxRecDepth 100000 in
theorem way_any (B Tb : Nat) (s : ShM) (fv : Value) (t : List Int) (w : World) (h : BookAt w B Tb s fv t) (ht : TOk s t) (hv : VarsAt w) (s1 s2 d1 d2 c : Int) (hsrc : (s1, s2) ∈ nodesS s.sh) (oks : okN (s1, s2)) (okd : okN (d1, d2)) (hc : -1 ≤ c ∧ c ≤ 1000) (F : Sr (Int × Int) Lk)
    (hF : floodS Lk.fr Lk.to_ ((liveL s.sh (tat t)).filter (okG c)) (manyS s.sh) (sr0 (s1, s2)) = F)
    (out : List Lk) (hout : out = (if (F.bef (d1, d2)).isSome then pathB Lk.fr F.bef lk0 (s1, s2) (manyS s.sh + 1) (d1, d2) else [])) :
    Calls Tryd.prog 81 #[.pointer (some ⟨B, 0, none⟩), .agg #[.int .i64 s1, .int .i64 s2], .agg #[.int .i64 d1, .int .i64 d2], .int .i64 c] w fun e w' => ∃ v, e = .returned v ∧ w'.ownsRow w.heap.size 114 8 v out.length (lksC out) ∧ Below w.heap.size w w' := by
  have HB := Lib.hid h
  have HOUT := Lib.hid hout
  clear hout
  have HV := Lib.hid hv
  have HT := Lib.hid ht
  have HOK := Lib.hid (And.intro oks okd)
  have HF := Lib.hid (And.intro hF hsrc)
  obtain ⟨cb1, cb2⟩ := hc
  have hmm := @run_makeMap Tryd.prog
  obtain ⟨hz, hsz⟩ := zero_of_info zero_node
  dsimp only [nodC] at hz
  clear h hv ht oks okd hF hsrc
  refine (callsIn_wide (n := 9)).1 (callsIn_of_wp_marks Tryd.func81 rfl trivial (wpIn_wide.2 ?_) rfl)
  simp only [Tryd.ntmps81, List.size_toArray, List.length_cons, List.length_nil, Nat.reduceAdd, Nat.reduceSub, Array.replicate_succ, Array.replicate_zero, List.push_toArray, List.append_toArray, List.nil_append, List.cons_append]
  obtain ⟨W, hW⟩ : ∃ W, W = (((w.alloc (.cells #[.int .i64 s1, .int .i64 s2] 92)).alloc (.cells #[.int .i64 d1, .int .i64 d2] 92)).alloc (.cells #[.int .i64 c] 3)).alloc (.map #[] 0) := ⟨_, rfl⟩
  have hb1 : Below w.heap.size w W := by rw [hW]; exact ((((Below.refl _ _).alloc (Nat.le_refl _) _).alloc (by simp) _).alloc (by simp; omega) _).alloc (by simp; omega) _
  have hM0 := map_new (((w.alloc (.cells #[.int .i64 s1, .int .i64 s2] 92)).alloc (.cells #[.int .i64 d1, .int .i64 d2] 92)).alloc (.cells #[.int .i64 c] 3))
  rw [← hW] at hM0
  obtain ⟨W2, hput, hbf2, hg2⟩ := BefAt.put (W := W) (bef := fun _ => none) hM0 HOK.out.1 lk0
  dsimp only [nodeV, lkV, lkC, lk0] at hput
  simp only [World.size_alloc] at hput hbf2 hg2
  rw [hW] at hput
  have e5 : NodeAt W w.heap.size (s1, s2) := by
    rw [hW]; exact heap_past (heap_past (heap_past (heap_alloc_last _ _) _) _) _
  have e6 : NodeAt W (w.heap.size + 1) (d1, d2) := by
    have := heap_alloc_last (w.alloc (.cells #[.int .i64 s1, .int .i64 s2] 92)) (.cells #[.int .i64 d1, .int .i64 d2] 92)
    rw [World.size_alloc] at this
    rw [hW]; exact heap_past (heap_past this _) _
  have e7 : BoxN W (w.heap.size + 1 + 1) c := by
    have := heap_alloc_last ((w.alloc (.cells #[.int .i64 s1, .int .i64 s2] 92)).alloc (.cells #[.int .i64 d1, .int .i64 d2] 92)) (.cells #[.int .i64 c] 3)
    rw [World.size_alloc, World.size_alloc] at this
    rw [hW]; exact heap_past this _
  have hz2 : W.heap.size = w.heap.size + 4 := by rw [hW]; simp
  obtain ⟨Mb, hMb⟩ : ∃ b, b = w.heap.size + 1 + 1 + 1 := ⟨_, rfl⟩
  rw [← hMb] at hput hbf2 hg2
  obtain ⟨W4, hW4⟩ : ∃ W4, W4 = (W2.alloc (.cells #[.map (some Mb)] 116)).alloc (.cells #[.int .i64 1] 3) := ⟨_, rfl⟩
  have hb4 : Below W2.heap.size W2 W4 := by rw [hW4]; exact ((Below.refl _ _).alloc (Nat.le_refl _) _).alloc (by simp) _
  have e9 : W4.cell? ⟨W2.heap.size, 0, none⟩ = some (.map (some Mb)) := by rw [hW4]; simp [go_sem]
  have e10 : BoxN W4 (W2.heap.size + 1) 1 := by
    have := heap_alloc_last (W2.alloc (.cells #[.map (some Mb)] 116)) (.cells #[.int .i64 1] 3)
    rw [World.size_alloc] at this
    rw [hW4]; exact this
  rw [hMb] at hput
  go_upto_region 2 with fail
  go_upto_block 0 with fail
  rw [← hMb, ← hW4]
  obtain ⟨b5, hb5⟩ : ∃ b, b = w.heap.size := ⟨_, rfl⟩
  obtain ⟨b6, hb6⟩ : ∃ b, b = w.heap.size + 1 := ⟨_, rfl⟩
  obtain ⟨b7, hb7⟩ : ∃ b, b = w.heap.size + 1 + 1 := ⟨_, rfl⟩
  obtain ⟨b9, hb9⟩ : ∃ b, b = W2.heap.size := ⟨_, rfl⟩
  obtain ⟨b10, hb10⟩ : ∃ b, b = W2.heap.size + 1 := ⟨_, rfl⟩
  have HNE : Hid (NeW w b5 b6 b7 b9 Mb) := Lib.hid (by have := hg2.size; constructor <;> omega)
  have HAT : Hid (AtW w b5 b6 b7 b9 Mb (s1, s2) (d1, d2) c (sr0 (s1, s2)).bef [] W4) := Lib.hid (by
    have g5 : NodeAt W2 b5 (s1, s2) := by rw [hb5]; exact e5.of_heap (hg2.block _ (heap_lt e5) (fun e => by have := Option.some.inj e; omega))
    have g6 : NodeAt W2 b6 (d1, d2) := by rw [hb6]; exact e6.of_heap (hg2.block _ (heap_lt e6) (fun e => by have := Option.some.inj e; omega))
    have g7 : BoxN W2 b7 c := by rw [hb7]; exact (hg2.block _ (heap_lt e7) (fun e => by have := Option.some.inj e; omega)).trans e7
    have hb2 : Below w.heap.size w W2 := (hb1.grown hg2 (by omega) (fun j e => by cases e; omega))
    exact ⟨hb2.trans (hb4.mono hb2.size), g5.of_heap (hb4.block _ (heap_lt g5)), g6.of_heap (hb4.block _ (heap_lt g6)), (hb4.block _ (heap_lt g7)).trans g7, by rw [hb9]; exact e9, MapAt.of_heap hbf2 (hb4.block _ (MapAt.lt hbf2)), List.nodup_nil, fun r hr => absurd hr List.not_mem_nil⟩)
  have H10 : Hid (BoxN W4 b10 1 ∧ w.heap.size ≤ b10 ∧ b10 ≠ b5 ∧ b10 ≠ b6 ∧ b10 ≠ b7 ∧ b10 ≠ b9 ∧ b10 ≠ Mb) := Lib.hid (by have := hg2.size; exact ⟨by rw [hb10]; exact e10, by omega, by omega, by omega, by omega, by omega, by omega⟩)
  rw [← hb10, ← hb7, ← hb6, ← hb9, ← hb5]
  clear hW4 hb10 hb7 hb6 hb9 hb5 hMb e5 e6 e7 e9 e10 hz2 hb4 hput hbf2 hg2 hW hb1 hM0
  refine wp_cut (fun a W' => ∃ (ds : List Deferred) (rs : List Nat) (b10 : Nat), ∃ u4 u11 u12 u13 u14 u15 u16 u17 u18 u19 u20 u21 u22 u23 u24 u25 u26 u27 u28 u29 u30 u31 u32 u33 u34 u35 u36 u37 u38 u39 u40 u41 u42 u43 u44 u45 u46 u47 u48 u49 u50 u51 u52 u53 u54 u55 u56 u57 u58 u59 u60 u61 u62 u63 u64 u65 u66 u67 u68 u69 u70 u71 u72 u73 u74 u75 u76 u77 u78 u79 u80 u81 u82 u83 u84 u85 u86 u87 u88 u89 u90 u91 u92 u93 u94 u95 u96 u97 u98 u99 u100 u101 u102 u103 u104 u105 u106 u107 u108 u109 u110 u111 u112 u113 u114 u115 u116 u117 u118 u119 u120 u121 u122 u123 u124 u125 u126 u127 u128 u129 u130 u131 u132 u133 u134 u135 u136 u137 u138 u139 u140 : Value, a = { tmps := #[.pointer (some ⟨B, 0, none⟩), .agg #[.int .i64 s1, .int .i64 s2], .agg #[.int .i64 d1, .int .i64 d2], .int .i64 c, u4, .pointer (some ⟨b5, 0, none⟩), .pointer (some ⟨b6, 0, none⟩), .pointer (some ⟨b7, 0, none⟩), .slice none 0 0, .pointer (some ⟨b9, 0, none⟩), .pointer (some ⟨b10, 0, none⟩), u11, u12, u13, u14, u15, u16, u17, u18, u19, u20, u21, u22, u23, u24, u25, u26, u27, u28, u29, u30, u31, u32, u33, u34, u35, u36, u37, u38, u39, u40, u41, u42, u43, u44, u45, u46, u47, u48, u49, u50, u51, u52, u53, u54, u55, u56, u57, u58, u59, u60, u61, u62, u63, u64, u65, u66, u67, u68, u69, u70, u71, u72, u73, u74, u75, u76, u77, u78, u79, u80, u81, u82, u83, u84, u85, u86, u87, u88, u89, u90, u91, u92, u93, u94, u95, u96, u97, u98, u99, u100, u101, u102, u103, u104, u105, u106, u107, u108, u109, u110, u111, u112, u113, u114, u115, u116, u117, u118, u119, u120, u121, u122, u123, u124, u125, u126, u127, u128, u129, u130, u131, u132, u133, u134, u135, u136, u137, u138, u139, u140], defers := ds } ∧ MarksOk ds rs ∧ Hid (AtW w b5 b6 b7 b9 Mb (s1, s2) (d1, d2) c F.bef rs W' ∧ OkS F ∧ ∃ D T, SrInv Lk.fr Lk.to_ ((liveL s.sh (tat t)).filter (okG c)) (s1, s2) (nodesS s.sh) F D T)) ?rest ?first
  case first =>
    intro JC KC hJC hKC
    refine wp_block ?_
    refine wp_loop_ghost_k (fun n a W' => ∃ (ds : List Deferred) (rs : List Nat) (b10 mv : Nat) (σ : Sr (Int × Int) Lk), ∃ u4 u11 u12 u13 u14 u15 u16 u17 u18 u19 u20 u21 u22 u23 u24 u25 u26 u27 u28 u29 u30 u31 u32 u33 u34 u35 u36 u37 u38 u39 u40 u41 u42 u43 u44 u45 u46 u47 u48 u49 u50 u51 u52 u53 u54 u55 u56 u57 u58 u59 u60 u61 u62 u63 u64 u65 u66 u67 u68 u69 u70 u71 u72 u73 u74 u75 u76 u77 u78 u79 u80 u81 u82 u83 u84 u85 u86 u87 u88 u89 u90 u91 u92 u93 u94 u95 u96 u97 u98 u99 u100 u101 u102 u103 u104 u105 u106 u107 u108 u109 u110 u111 u112 u113 u114 u115 u116 u117 u118 u119 u120 u121 u122 u123 u124 u125 u126 u127 u128 u129 u130 u131 u132 u133 u134 u135 u136 u137 u138 u139 u140 : Value, a = { tmps := #[.pointer (some ⟨B, 0, none⟩), .agg #[.int .i64 s1, .int .i64 s2], .agg #[.int .i64 d1, .int .i64 d2], .int .i64 c, u4, .pointer (some ⟨b5, 0, none⟩), .pointer (some ⟨b6, 0, none⟩), .pointer (some ⟨b7, 0, none⟩), .slice none 0 0, .pointer (some ⟨b9, 0, none⟩), .pointer (some ⟨b10, 0, none⟩), u11, u12, u13, u14, u15, u16, u17, u18, u19, u20, u21, u22, u23, u24, u25, u26, u27, u28, u29, u30, u31, u32, u33, u34, u35, u36, u37, u38, u39, u40, u41, u42, u43, u44, u45, u46, u47, u48, u49, u50, u51, u52, u53, u54, u55, u56, u57, u58, u59, u60, u61, u62, u63, u64, u65, u66, u67, u68, u69, u70, u71, u72, u73, u74, u75, u76, u77, u78, u79, u80, u81, u82, u83, u84, u85, u86, u87, u88, u89, u90, u91, u92, u93, u94, u95, u96, u97, u98, u99, u100, u101, u102, u103, u104, u105, u106, u107, u108, u109, u110, u111, u112, u113, u114, u115, u116, u117, u118, u119, u120, u121, u122, u123, u124, u125, u126, u127, u128, u129, u130, u131, u132, u133, u134, u135, u136, u137, u138, u139, u140], defers := ds } ∧ MarksOk ds rs ∧ Hid (AtW w b5 b6 b7 b9 Mb (s1, s2) (d1, d2) c σ.bef rs W' ∧ BoxN W' b10 (mv : Int) ∧ (w.heap.size ≤ b10 ∧ b10 ≠ b5 ∧ b10 ≠ b6 ∧ b10 ≠ b7 ∧ b10 ≠ b9 ∧ b10 ≠ Mb ∧ ∀ r ∈ rs, r ≠ b10) ∧ mv ≤ 72 ∧ OkS σ ∧
      ∃ D T, SrInv Lk.fr Lk.to_ ((liveL s.sh (tat t)).filter (okG c)) (s1, s2) (nodesS s.sh) σ D T ∧ (mv = 0 ∧ σ = F ∨ mv ≠ 0 ∧ floodS Lk.fr Lk.to_ ((liveL s.sh (tat t)).filter (okG c)) n σ = F ∧ (nodesS s.sh).length < D.length + n))) (manyS s.sh) ?h0 ?round
    case h0 =>
      refine ⟨[], [], b10, 1, sr0 (s1, s2), ?_⟩
      (repeat apply Exists.intro)
      refine ⟨rfl, (show MarksOk [] [] from rfl), Lib.hid ⟨HAT.out, H10.out.1, ⟨H10.out.2.1, H10.out.2.2.1, H10.out.2.2.2.1, H10.out.2.2.2.2.1, H10.out.2.2.2.2.2.1, H10.out.2.2.2.2.2.2, fun r hr => absurd hr List.not_mem_nil⟩, by omega, oks0 _, _, _, sr0_inv _ _ _ HF.out.2, .inr ⟨by omega, HF.out.1, by simp [nodesS, manyS] <;> omega⟩⟩⟩
    case round =>
      clear HAT H10 b10
      intro n a0 W0 hinv J K hJ hK
      obtain ⟨ds, rs, b10, mv, σ, hinv⟩ := hinv
      obtain ⟨u4, hinv⟩ := hinv
      obtain ⟨u11, hinv⟩ := hinv
      obtain ⟨u12, hinv⟩ := hinv
      obtain ⟨u13, hinv⟩ := hinv
      obtain ⟨u14, hinv⟩ := hinv
      obtain ⟨u15, hinv⟩ := hinv
      obtain ⟨u16, hinv⟩ := hinv
      obtain ⟨u17, hinv⟩ := hinv
      obtain ⟨u18, hinv⟩ := hinv
      obtain ⟨u19, hinv⟩ := hinv
      obtain ⟨u20, hinv⟩ := hinv
      obtain ⟨u21, hinv⟩ := hinv
      obtain ⟨u22, hinv⟩ := hinv
      obtain ⟨u23, hinv⟩ := hinv
      obtain ⟨u24, hinv⟩ := hinv
      obtain ⟨u25, hinv⟩ := hinv
      obtain ⟨u26, hinv⟩ := hinv
      obtain ⟨u27, hinv⟩ := hinv
      obtain ⟨u28, hinv⟩ := hinv
      obtain ⟨u29, hinv⟩ := hinv
      obtain ⟨u30, hinv⟩ := hinv
      obtain ⟨u31, hinv⟩ := hinv
      obtain ⟨u32, hinv⟩ := hinv
      obtain ⟨u33, hinv⟩ := hinv
      obtain ⟨u34, hinv⟩ := hinv
      obtain ⟨u35, hinv⟩ := hinv
      obtain ⟨u36, hinv⟩ := hinv
      obtain ⟨u37, hinv⟩ := hinv
      obtain ⟨u38, hinv⟩ := hinv
      obtain ⟨u39, hinv⟩ := hinv
      obtain ⟨u40, hinv⟩ := hinv
      obtain ⟨u41, hinv⟩ := hinv
      obtain ⟨u42, hinv⟩ := hinv
      obtain ⟨u43, hinv⟩ := hinv
      obtain ⟨u44, hinv⟩ := hinv
      obtain ⟨u45, hinv⟩ := hinv
      obtain ⟨u46, hinv⟩ := hinv
      obtain ⟨u47, hinv⟩ := hinv
      obtain ⟨u48, hinv⟩ := hinv
      obtain ⟨u49, hinv⟩ := hinv
      obtain ⟨u50, hinv⟩ := hinv
      obtain ⟨u51, hinv⟩ := hinv
      obtain ⟨u52, hinv⟩ := hinv
      obtain ⟨u53, hinv⟩ := hinv
      obtain ⟨u54, hinv⟩ := hinv
      obtain ⟨u55, hinv⟩ := hinv
      obtain ⟨u56, hinv⟩ := hinv
      obtain ⟨u57, hinv⟩ := hinv
      obtain ⟨u58, hinv⟩ := hinv
      obtain ⟨u59, hinv⟩ := hinv
      obtain ⟨u60, hinv⟩ := hinv
      obtain ⟨u61, hinv⟩ := hinv
      obtain ⟨u62, hinv⟩ := hinv
      obtain ⟨u63, hinv⟩ := hinv
      obtain ⟨u64, hinv⟩ := hinv
      obtain ⟨u65, hinv⟩ := hinv
      obtain ⟨u66, hinv⟩ := hinv
      obtain ⟨u67, hinv⟩ := hinv
      obtain ⟨u68, hinv⟩ := hinv
      obtain ⟨u69, hinv⟩ := hinv
      obtain ⟨u70, hinv⟩ := hinv
      obtain ⟨u71, hinv⟩ := hinv
      obtain ⟨u72, hinv⟩ := hinv
      obtain ⟨u73, hinv⟩ := hinv
      obtain ⟨u74, hinv⟩ := hinv
      obtain ⟨u75, hinv⟩ := hinv
      obtain ⟨u76, hinv⟩ := hinv
      obtain ⟨u77, hinv⟩ := hinv
      obtain ⟨u78, hinv⟩ := hinv
      obtain ⟨u79, hinv⟩ := hinv
      obtain ⟨u80, hinv⟩ := hinv
      obtain ⟨u81, hinv⟩ := hinv
      obtain ⟨u82, hinv⟩ := hinv
      obtain ⟨u83, hinv⟩ := hinv
      obtain ⟨u84, hinv⟩ := hinv
      obtain ⟨u85, hinv⟩ := hinv
      obtain ⟨u86, hinv⟩ := hinv
      obtain ⟨u87, hinv⟩ := hinv
      obtain ⟨u88, hinv⟩ := hinv
      obtain ⟨u89, hinv⟩ := hinv
      obtain ⟨u90, hinv⟩ := hinv
      obtain ⟨u91, hinv⟩ := hinv
      obtain ⟨u92, hinv⟩ := hinv
      obtain ⟨u93, hinv⟩ := hinv
      obtain ⟨u94, hinv⟩ := hinv
      obtain ⟨u95, hinv⟩ := hinv
      obtain ⟨u96, hinv⟩ := hinv
      obtain ⟨u97, hinv⟩ := hinv
      obtain ⟨u98, hinv⟩ := hinv
      obtain ⟨u99, hinv⟩ := hinv
      obtain ⟨u100, hinv⟩ := hinv
      obtain ⟨u101, hinv⟩ := hinv
      obtain ⟨u102, hinv⟩ := hinv
      obtain ⟨u103, hinv⟩ := hinv
      obtain ⟨u104, hinv⟩ := hinv
      obtain ⟨u105, hinv⟩ := hinv
      obtain ⟨u106, hinv⟩ := hinv
      obtain ⟨u107, hinv⟩ := hinv
      obtain ⟨u108, hinv⟩ := hinv
      obtain ⟨u109, hinv⟩ := hinv
      obtain ⟨u110, hinv⟩ := hinv
      obtain ⟨u111, hinv⟩ := hinv
      obtain ⟨u112, hinv⟩ := hinv
      obtain ⟨u113, hinv⟩ := hinv
      obtain ⟨u114, hinv⟩ := hinv
      obtain ⟨u115, hinv⟩ := hinv
      obtain ⟨u116, hinv⟩ := hinv
      obtain ⟨u117, hinv⟩ := hinv
      obtain ⟨u118, hinv⟩ := hinv
      obtain ⟨u119, hinv⟩ := hinv
      obtain ⟨u120, hinv⟩ := hinv
      obtain ⟨u121, hinv⟩ := hinv
      obtain ⟨u122, hinv⟩ := hinv
      obtain ⟨u123, hinv⟩ := hinv
      obtain ⟨u124, hinv⟩ := hinv
      obtain ⟨u125, hinv⟩ := hinv
      obtain ⟨u126, hinv⟩ := hinv
      obtain ⟨u127, hinv⟩ := hinv
      obtain ⟨u128, hinv⟩ := hinv
      obtain ⟨u129, hinv⟩ := hinv
      obtain ⟨u130, hinv⟩ := hinv
      obtain ⟨u131, hinv⟩ := hinv
      obtain ⟨u132, hinv⟩ := hinv
      obtain ⟨u133, hinv⟩ := hinv
      obtain ⟨u134, hinv⟩ := hinv
      obtain ⟨u135, hinv⟩ := hinv
      obtain ⟨u136, hinv⟩ := hinv
      obtain ⟨u137, hinv⟩ := hinv
      obtain ⟨u138, hinv⟩ := hinv
      obtain ⟨u139, hinv⟩ := hinv
      obtain ⟨u140, hinv⟩ := hinv
      obtain ⟨rfl, hds, HI⟩ := hinv
      have c10 := HI.out.2.1.cell
      have f10 := HI.out.2.1.free
      have mv72 : (mv : Int) ≤ 72 := by have := HI.out.2.2.2.1; omega
      by_cases gm : mv = 0
      · have gl : ¬ ((0 : Int) < (mv : Int)) := by omega
        have HFIN : Hid (σ = F) := Lib.hid (by
          obtain ⟨D, T, _, h | h⟩ := HI.out.2.2.2.2.2
          · exact h.2
          · exact absurd gm h.1)
        clear gm
        go_wp2_with fail
        refine Met.intro (hJC _ _ ⟨ds, rs, b10, ?_⟩)
        (repeat apply Exists.intro)
        refine ⟨rfl, hds, Lib.hid ⟨by rw [← HFIN.out]; exact HI.out.1, by rw [← HFIN.out]; exact HI.out.2.2.2.2.1, ?_⟩⟩
        obtain ⟨D, T, h, _⟩ := HI.out.2.2.2.2.2
        exact ⟨D, T, by rw [← HFIN.out]; exact h⟩
      · have gl : (0 : Int) < (mv : Int) := by omega
        have HMV : Hid (∃ D T, SrInv Lk.fr Lk.to_ ((liveL s.sh (tat t)).filter (okG c)) (s1, s2) (nodesS s.sh) σ D T ∧ floodS Lk.fr Lk.to_ ((liveL s.sh (tat t)).filter (okG c)) n σ = F ∧ (nodesS s.sh).length < D.length + n) := Lib.hid (by
          obtain ⟨D, T, h1, h | h⟩ := HI.out.2.2.2.2.2
          · exact absurd h.1 gm
          · exact ⟨D, T, h1, h.2⟩)
        clear gm
        obtain ⟨Wz, hWz⟩ : ∃ Wz, Wz = W0.setCell ⟨b10, 0, none⟩ (.int .i64 0) := ⟨_, rfl⟩
        have hhz : HoleL [Mb, b10] W0.heap.size W0 Wz := by rw [hWz]; exact (HoleL.refl _ _ _).set (.inl (by simp)) _
        have hbz : Below w.heap.size w Wz := by rw [hWz]; exact below_setB HI.out.1.below HI.out.2.2.1.1 _
        have hz10 : BoxN Wz b10 0 := by rw [hWz]; exact HI.out.2.1.set 0
        have HLK := Lib.hid (links_any B Tb s fv t Wz (HV.out.below hbz) (HB.out.below hbz) HT.out)
        have hzs : Wz.heap.size = W0.heap.size := by rw [hWz]; simp
        have hAz : AtW w b5 b6 b7 b9 Mb (s1, s2) (d1, d2) c σ.bef rs Wz := HI.out.1.hole HNE.out hhz ⟨HI.out.2.2.1.1, HI.out.2.2.1.2.1, HI.out.2.2.1.2.2.1, HI.out.2.2.1.2.2.2.1, HI.out.2.2.1.2.2.2.2.1, HI.out.2.2.1.2.2.2.2.2.2⟩ (MapAt.of_heap HI.out.1.bef (by rw [hWz]; exact heap_setCell_other _ _ _ _ (Ne.symm HI.out.2.2.1.2.2.2.2.2.1)))
        have HZ0 := Lib.hid (And.intro hAz (And.intro hbz (And.intro hz10 hzs)))
        clear hhz hbz hz10 hzs hAz
        go_upto_region 5 with fail
        rw [← hWz]
        clear hWz c10 f10
        go_wp2_with (first | (go_at_call 82; refine HLK.out.mono ?_; rintro e W1 ⟨bL, vL, rfl, h1⟩; have H1 := Lib.hid h1; clear h1))
        have hLpos : 0 < (linksL s.sh (tat t)).length := by
          rw [← lkA_is, lkA_length]; omega
        obtain ⟨h11, h12, h13, h14, h15⟩ := H1.out
        obtain ⟨g, cc, cur, rfl, hg1, hg2, hg3⟩ := row_open h12 hLpos
        have hgood := links_good HT.out
        have hlen := links_len HT.out
        obtain ⟨LA, hLA⟩ : ∃ LA : List LkG, LA.map (fun x => x.1) = (linksL s.sh (tat t)).filter (fun x => decide (0 < x.room)) := ⟨liveG _ hgood, liveG_val _ _⟩
        have HSEQ := Lib.hid (links_stops (α := LkG) (fun x => x.1) LA (linksL s.sh (tat t)) hLA bL g cc W1 (by omega) (fun x hx => (hgood x hx).room) h11 cur hg2 hg3 8)
        have HZ : Hid (Mb < Wz.heap.size ∧ b10 < Wz.heap.size ∧ Wz.heap.size ≤ g ∧ g < W1.heap.size ∧ b7 < Wz.heap.size ∧ Wz.heap.size ≤ W1.heap.size ∧ w.heap.size ≤ Wz.heap.size ∧ Wz.heap.size = W0.heap.size) := Lib.hid (by
          have a1 := MapAt.lt HI.out.1.bef
          have a2 := heap_lt HI.out.2.1
          have a3 := heap_lt HI.out.1.c7
          have a5 := heap_lt hg2
          have a6 := HI.out.1.below.size
          have a7 := heap_lt HZ0.out.2.2.1
          have a8 := h15.size
          have a9 : Wz.heap.size = W0.heap.size := HZ0.out.2.2.2
          omega)
        have HLL : Hid (LA.map (fun x => x.1) = liveL s.sh (tat t) ∧ LA.length ≤ 72) := Lib.hid ⟨hLA, by
          have : LA.length = ((linksL s.sh (tat t)).filter (fun x => decide (0 < x.room))).length := by rw [← hLA, List.length_map]
          have h2 := List.length_filter_le (fun x : Lk => decide (0 < x.room)) (linksL s.sh (tat t))
          omega⟩
        have HA1 : Hid (AtW w b5 b6 b7 b9 Mb (s1, s2) (d1, d2) c σ.bef rs W1 ∧ VarsAt W1) := Lib.hid ⟨HZ0.out.1.grow h15, HV.out.below (HZ0.out.2.1.trans (h15.mono HZ0.out.2.1.size))⟩
        have HIN : Hid (InW W1 Mb b10 ⟨σ.bef, 0⟩ W1) := Lib.hid ⟨HA1.out.1.bef, (h15.block _ (heap_lt HZ0.out.2.2.1)).trans HZ0.out.2.2.1, HoleL.refl _ _ _⟩
        have HOS : Hid (OkS ⟨σ.bef, 0⟩) := Lib.hid HI.out.2.2.2.2.1
        clear h11 h12 h13 h14 h15 hg1 hg2 hg3 hgood hlen hLA hLpos HLK H1
        refine (wpIn_wide (n := 9)).1 ?_
        refine wpIn_rangeFunc_ownH (F := Fence.wide) (α := LkG) (encs := fun x : LkG => #[lkV x.1]) (Kp := KeepG g) (S := fun xs : List LkG => xs = LA) (Sp := fun pre : List LkG => pre <+: LA) (N := LA.length) (w0 := W1) rfl (by decide) (gf := 85) (lb := #[.pointer (some ⟨bL, 0, none⟩)]) rfl trivial (enters_of Tryd.func85 (by kernel_rfl) rfl)
          HSEQ.out (fun h k => h.trans k) ?keepb (Below.refl _ _) (fun _ => rfl)
          (fun (pre : List LkG) W' => InW W1 Mb b10 ((pre.map (fun x => x.1)).foldl (stepG c) ⟨σ.bef, 0⟩) W')
          (fun _ _ _ => False)
          ?own
          (fun _ _ _ _ _ hs _ _ => hs)
          HIN.out
          (fun (x : LkG) a' W' => ∃ Bx, W1.heap.size ≤ Bx ∧ W'.heap[Bx]? = some (.cells (lkC x.1).toArray 114 (0, 0)) ∧
            a' = { tmps := #[.pointer (some ⟨B, 0, none⟩), .agg #[.int .i64 s1, .int .i64 s2], .agg #[.int .i64 d1, .int .i64 d2], .int .i64 c, u4, .pointer (some ⟨b5, 0, none⟩), .pointer (some ⟨b6, 0, none⟩), .pointer (some ⟨b7, 0, none⟩), .slice none 0 0, .pointer (some ⟨b9, 0, none⟩), .pointer (some ⟨b10, 0, none⟩), .pointer (some ⟨Bx, 0, none⟩), u12, u13, u14, u15, u16, u17, u18, u19, u20, u21, u22, u23, u24, .int .i64 (mv : Int), .bool true, .pointer (some ⟨B, 0, none⟩), .func (.func 85) #[] #[.pointer (some ⟨bL, 0, none⟩)], lkV x.1, u30, u31, u32, u33, u34, u35, u36, u37, u38, u39, u40, u41, u42, u43, u44, u45, u46, u47, u48, u49, u50, u51, u52, u53, u54, u55, u56, u57, u58, u59, u60, u61, u62, u63, u64, u65, u66, u67, u68, u69, u70, u71, u72, u73, u74, u75, u76, u77, u78, u79, u80, u81, u82, u83, u84, u85, u86, u87, u88, u89, u90, u91, u92, u93, u94, u95, u96, u97, u98, u99, u100, u101, u102, u103, u104, u105, u106, u107, u108, u109, u110, u111, u112, u113, u114, u115, u116, u117, u118, u119, u120, u121, u122, u123, u124, u125, u126, u127, u128, u129, u130, u131, u132, u133, u134, u135, u136, u137, u138, u139, u140], defers := [] })
          ?ax ?assign ?body ?done ?stop
        case own => exact InW.own (by have := HZ.out; omega) (by have := HZ.out; omega) _
        case keepb => exact fun W' lo o o' h1 _ _ _ => keepG_put o' (by have := HZ.out; omega)
        case ax =>
          rintro x a' _ X Y row ⟨Bx, hx1, hx2, rfl⟩ hg hr
          exact ⟨Bx, hx1, (hg.block Bx (heap_lt hx2) (fun e => by obtain ⟨_, o, ho, hc⟩ := hr Bx e.symm; rw [hx2] at ho; cases ho; cases hc)).trans hx2, rfl⟩
        case assign =>
          rintro lo pre x W' K hi hK
          dsimp only [lkV, lkC]
          gi_wp2
          have hb := (Below.refl W'.heap.size W').alloc (Nat.le_refl _) (.cells (lkC x.1).toArray 114)
          refine hK _ _ (KeepsFrom.of_grownBy (World.grownBy_alloc _ _ none) (fun j e => by cases e)) (KeepG.of_below hb (by have := HZ.out; have := hi.hole.size; omega)) (hi.grow hb) ⟨W'.heap.size, hi.hole.size, heap_alloc_last _ _, rfl⟩
        case stop =>
          rintro D cd pre W' _ _ h _
          exact h.elim
        case body =>
          rintro lo pre x a' W' hlo ⟨rec, hrec⟩ hi ⟨Bx, hx1, hx2, rfl⟩ hlen
          obtain ⟨x, hx⟩ := x
          obtain ⟨⟨f1, f2⟩, ⟨t1, t2⟩, wr, rm, cl, sg⟩ := x
          dsimp only at hx2
          obtain ⟨σp, hσp⟩ : ∃ σp, σp = (pre.map (fun x => x.1)).foldl (stepG c) ⟨σ.bef, 0⟩ := ⟨_, rfl⟩
          have hmv : σp.moved ≤ 72 := by
            have h1 := movedG_le c (pre.map (fun x => x.1)) ⟨σ.bef, 0⟩
            rw [← hσp, List.length_map] at h1
            have := HLL.out.2
            simp only at h1
            omega
          have hokp : OkS σp := by
            rw [hσp]
            exact OkS.fold c (pre.map (fun x => x.1)) (fun y hy => by obtain ⟨z, _, rfl⟩ := List.mem_map.1 hy; exact z.2) HOS.out
          have HFD : Hid ((List.map (fun x : LkG => x.1) (pre ++ [⟨⟨(f1, f2), (t1, t2), wr, rm, cl, sg⟩, hx⟩])).foldl (stepG c) ⟨σ.bef, 0⟩ = stepG c σp ⟨(f1, f2), (t1, t2), wr, rm, cl, sg⟩) := Lib.hid (by rw [List.map_append, List.foldl_append, ← hσp]; rfl)
          rw [← hσp] at hi
          have hmove : ∀ (p : Addr) (v : Value), p.block ∉ [Mb, b10] → W1.cell? p = some v → W'.cell? p = some v := fun p v hn hv => by
            rw [hi.hole.cell (cell_size hv) hn]; exact hv
          have hb10n := HI.out.2.2.1
          have hvW : VarsAt W' := by
            have hlt : ∀ i, i < 2 → i < w.heap.size := fun i hi2 => by have := cell_size HV.out.b0; simp only at this; omega
            have hlM := HNE.out.lM
            have hg : ∀ (i o : Nat) (v : Value), i < 2 → W1.cell? ⟨i, o, none⟩ = some v → W'.cell? ⟨i, o, none⟩ = some v := fun i o v hi2 hv => hmove ⟨i, o, none⟩ v (by have := hlt i hi2; have := hb10n.1; simp; omega) hv
            exact ⟨hg 0 0 _ (by omega) HA1.out.2.g0, hg 0 1 _ (by omega) HA1.out.2.g1, hg 1 0 _ (by omega) HA1.out.2.b0, hg 1 1 _ (by omega) HA1.out.2.b1⟩
          have e7 := hmove ⟨b7, 0, none⟩ _ (by have h1 := HNE.out.n7; have h2 := hb10n.2.2.2.1; simp; exact ⟨h1, Ne.symm h2⟩) HA1.out.1.c7.cell
          have e9 := hmove ⟨b9, 0, none⟩ _ (by have h1 := HNE.out.n9; have h2 := hb10n.2.2.2.2.1; simp; exact ⟨h1, Ne.symm h2⟩) HA1.out.1.c9
          have xc : ∀ (j : Nat) (v : Value), (lkC ⟨(f1, f2), (t1, t2), wr, rm, cl, sg⟩)[j]? = some v → W'.cell? ⟨Bx, j, none⟩ = some v := fun j v hv => by
            rw [cell_of_row W' _ _ _ _ _ hx2]; simpa using hv
          have y0 := xc 0 _ rfl
          have y1 := xc 1 _ rfl
          have y2 := xc 2 _ rfl
          have y3 := xc 3 _ rfl
          have y4 := xc 4 _ rfl
          have y5 := xc 5 _ rfl
          have y6 := xc 6 _ rfl
          have y7 := xc 7 _ rfl
          dsimp only at y0 y1 y2 y3 y4 y5 y6 y7
          have v0 := hvW.g0
          have v1 := hvW.g1
          have v2 := hvW.b0
          have v3 := hvW.b1
          obtain ⟨n1, hn1⟩ : ∃ b, b = decide (¬ ((f1, f2) : Int × Int) = (t1, t2)) := ⟨_, rfl⟩
          obtain ⟨n2, hn2⟩ : ∃ b, b = decide (((f1, f2) : Int × Int) = boomN) := ⟨_, rfl⟩
          obtain ⟨n3, hn3⟩ : ∃ b, b = decide (((t1, t2) : Int × Int) = gateN) := ⟨_, rfl⟩
          obtain ⟨n4, hn4⟩ : ∃ b, b = decide (((f1, f2) : Int × Int) = gateN) := ⟨_, rfl⟩
          obtain ⟨n5, hn5⟩ : ∃ b, b = decide (((t1, t2) : Int × Int) = boomN) := ⟨_, rfl⟩
          have HOG : Hid ((!okG c ⟨(f1, f2), (t1, t2), wr, rm, cl, sg⟩) = (decide (0 < wr) || (decide (¬ c = -1) && decide (cl = c)) || (decide (c = -1) && (n1 && ((n2 && n3) || (n4 && n5)))))) := Lib.hid (by rw [hn1, hn2, hn3, hn4, hn5]; unfold okG; rw [Bool.not_not])
          have q1 : ∀ W, (binOp .neq 92 (.agg #[.int .i64 f1, .int .i64 f2]) (.agg #[.int .i64 t1, .int .i64 t2])).run Tryd.prog W = .ok (.bool n1) W := fun W => by rw [hn1]; exact neq_node2 W _ _ _ _
          have q2 : ∀ W, (binOp .eql 92 (.agg #[.int .i64 f1, .int .i64 f2]) (.agg #[.int .i64 3, .int .i64 0])).run Tryd.prog W = .ok (.bool n2) W := fun W => by rw [hn2]; exact eql_node2 W _ _ _ _
          have q3 : ∀ W, (binOp .eql 92 (.agg #[.int .i64 t1, .int .i64 t2]) (.agg #[.int .i64 0, .int .i64 0])).run Tryd.prog W = .ok (.bool n3) W := fun W => by rw [hn3]; exact eql_node2 W _ _ _ _
          have q4 : ∀ W, (binOp .eql 92 (.agg #[.int .i64 f1, .int .i64 f2]) (.agg #[.int .i64 0, .int .i64 0])).run Tryd.prog W = .ok (.bool n4) W := fun W => by rw [hn4]; exact eql_node2 W _ _ _ _
          have q5 : ∀ W, (binOp .eql 92 (.agg #[.int .i64 t1, .int .i64 t2]) (.agg #[.int .i64 3, .int .i64 0])).run Tryd.prog W = .ok (.bool n5) W := fun W => by rw [hn5]; exact eql_node2 W _ _ _ _
          have HIB := Lib.hid (And.intro hi (And.intro hmv (And.intro hokp hx1)))
          have HX := Lib.hid hx
          clear hn1 hn2 hn3 hn4 hn5 hi hmv hokp hx2 hmove hb10n hvW xc hσp hrec hlen
          refine wpIn_block (wpIn_seq (wpIn_seq ?_))
          obtain ⟨R7, hR7⟩ : ∃ R7 : Act → World → Prop, R7 = (fun a'' w'' => ∃ u30 u31 u32 u33 u34 u35 u36 u37 u38 u39 u40 u41 u42 u43 u44 u45 u46 u47 u48 u49 u50 u51 u52 u53 u54 u55 u56 u57 u58 u59 u60 u61 u62 u63 u64 u65 u66 u67 u68 u69 u70 u71 u72 u73 u74 u75 u76 : Value, a'' = { tmps := #[.pointer (some ⟨B, 0, none⟩), .agg #[.int .i64 s1, .int .i64 s2], .agg #[.int .i64 d1, .int .i64 d2], .int .i64 c, u4, .pointer (some ⟨b5, 0, none⟩), .pointer (some ⟨b6, 0, none⟩), .pointer (some ⟨b7, 0, none⟩), .slice none 0 0, .pointer (some ⟨b9, 0, none⟩), .pointer (some ⟨b10, 0, none⟩), .pointer (some ⟨Bx, 0, none⟩), u12, u13, u14, u15, u16, u17, u18, u19, u20, u21, u22, u23, u24, .int .i64 (mv : Int), .bool true, .pointer (some ⟨B, 0, none⟩), .func (.func 85) #[] #[.pointer (some ⟨bL, 0, none⟩)], lkV ⟨(f1, f2), (t1, t2), wr, rm, cl, sg⟩, u30, u31, u32, u33, u34, u35, u36, u37, u38, u39, u40, u41, u42, u43, u44, u45, u46, u47, u48, u49, u50, u51, u52, u53, u54, u55, u56, u57, u58, u59, u60, u61, u62, u63, u64, u65, u66, u67, u68, u69, u70, u71, u72, u73, u74, u75, u76, .bool (!okG c ⟨(f1, f2), (t1, t2), wr, rm, cl, sg⟩), u78, u79, u80, u81, u82, u83, u84, u85, u86, u87, u88, u89, u90, u91, u92, u93, u94, u95, u96, u97, u98, u99, u100, u101, u102, u103, u104, u105, u106, u107, u108, u109, u110, u111, u112, u113, u114, u115, u116, u117, u118, u119, u120, u121, u122, u123, u124, u125, u126, u127, u128, u129, u130, u131, u132, u133, u134, u135, u136, u137, u138, u139, u140], defers := [] } ∧ w'' = W') := ⟨_, rfl⟩
          have HR7 := Lib.hid hR7
          clear hR7
          refine wpIn_cut R7 ?rest7 ?first7
          case first7 =>
            by_cases g1 : 0 < wr
            · have g1i : decide (0 < wr) = true := decide_eq_true g1
              have hval : Hid ((!okG c ⟨(f1, f2), (t1, t2), wr, rm, cl, sg⟩) = true) := Lib.hid (by rw [HOG.out]; simp [g1])
              clear HOG
              gi_wp2
              rw [HR7.out]
              (repeat apply Exists.intro)
              exact ⟨by rw [hval.out], rfl⟩
            · have g1i : decide (0 < wr) = false := decide_eq_false g1
              by_cases g2 : c = -1
              · subst g2
                cases n1 with
                | false =>
                  have hval : Hid ((!okG (-1) ⟨(f1, f2), (t1, t2), wr, rm, cl, sg⟩) = false) := Lib.hid (by rw [HOG.out]; simp [g1])
                  clear HOG
                  gi_wp2
                  rw [HR7.out]
                  (repeat apply Exists.intro)
                  exact ⟨by rw [hval.out], rfl⟩
                | true =>
                  cases n2 with
                  | true =>
                    cases n3 with
                    | true =>
                      have hval : Hid ((!okG (-1) ⟨(f1, f2), (t1, t2), wr, rm, cl, sg⟩) = true) := Lib.hid (by rw [HOG.out]; simp [g1])
                      clear HOG
                      gi_wp2
                      rw [HR7.out]
                      (repeat apply Exists.intro)
                      exact ⟨by rw [hval.out], rfl⟩
                    | false =>
                      cases n4 with
                      | false =>
                        have hval : Hid ((!okG (-1) ⟨(f1, f2), (t1, t2), wr, rm, cl, sg⟩) = false) := Lib.hid (by rw [HOG.out]; simp [g1])
                        clear HOG
                        gi_wp2
                        rw [HR7.out]
                        (repeat apply Exists.intro)
                        exact ⟨by rw [hval.out], rfl⟩
                      | true =>
                        cases n5 with
                        | true =>
                          have hval : Hid ((!okG (-1) ⟨(f1, f2), (t1, t2), wr, rm, cl, sg⟩) = true) := Lib.hid (by rw [HOG.out]; simp [g1])
                          clear HOG
                          gi_wp2
                          rw [HR7.out]
                          (repeat apply Exists.intro)
                          exact ⟨by rw [hval.out], rfl⟩
                        | false =>
                          have hval : Hid ((!okG (-1) ⟨(f1, f2), (t1, t2), wr, rm, cl, sg⟩) = false) := Lib.hid (by rw [HOG.out]; simp [g1])
                          clear HOG
                          gi_wp2
                          rw [HR7.out]
                          (repeat apply Exists.intro)
                          exact ⟨by rw [hval.out], rfl⟩
                  | false =>
                    cases n4 with
                    | false =>
                      have hval : Hid ((!okG (-1) ⟨(f1, f2), (t1, t2), wr, rm, cl, sg⟩) = false) := Lib.hid (by rw [HOG.out]; simp [g1])
                      clear HOG
                      gi_wp2
                      rw [HR7.out]
                      (repeat apply Exists.intro)
                      exact ⟨by rw [hval.out], rfl⟩
                    | true =>
                      cases n5 with
                      | true =>
                        have hval : Hid ((!okG (-1) ⟨(f1, f2), (t1, t2), wr, rm, cl, sg⟩) = true) := Lib.hid (by rw [HOG.out]; simp [g1])
                        clear HOG
                        gi_wp2
                        rw [HR7.out]
                        (repeat apply Exists.intro)
                        exact ⟨by rw [hval.out], rfl⟩
                      | false =>
                        have hval : Hid ((!okG (-1) ⟨(f1, f2), (t1, t2), wr, rm, cl, sg⟩) = false) := Lib.hid (by rw [HOG.out]; simp [g1])
                        clear HOG
                        gi_wp2
                        rw [HR7.out]
                        (repeat apply Exists.intro)
                        exact ⟨by rw [hval.out], rfl⟩
              · have g2i : (c == -1) = false := beq_eq_false_iff_ne.2 g2
                by_cases g3 : cl = c
                · subst g3
                  have hval : Hid ((!okG cl ⟨(f1, f2), (t1, t2), wr, rm, cl, sg⟩) = true) := Lib.hid (by rw [HOG.out]; simp [g1, g2])
                  clear HOG
                  gi_wp2
                  rw [HR7.out]
                  (repeat apply Exists.intro)
                  exact ⟨by rw [hval.out], rfl⟩
                · have g3i : (cl == c) = false := beq_eq_false_iff_ne.2 g3
                  have hval : Hid ((!okG c ⟨(f1, f2), (t1, t2), wr, rm, cl, sg⟩) = false) := Lib.hid (by rw [HOG.out]; simp [g1, g2, g3])
                  clear HOG
                  gi_wp2
                  rw [HR7.out]
                  (repeat apply Exists.intro)
                  exact ⟨by rw [hval.out], rfl⟩
          case rest7 =>
            intro a'' w'' hinv
            rw [HR7.out] at hinv
            obtain ⟨u30, hinv⟩ := hinv
            obtain ⟨u31, hinv⟩ := hinv
            obtain ⟨u32, hinv⟩ := hinv
            obtain ⟨u33, hinv⟩ := hinv
            obtain ⟨u34, hinv⟩ := hinv
            obtain ⟨u35, hinv⟩ := hinv
            obtain ⟨u36, hinv⟩ := hinv
            obtain ⟨u37, hinv⟩ := hinv
            obtain ⟨u38, hinv⟩ := hinv
            obtain ⟨u39, hinv⟩ := hinv
            obtain ⟨u40, hinv⟩ := hinv
            obtain ⟨u41, hinv⟩ := hinv
            obtain ⟨u42, hinv⟩ := hinv
            obtain ⟨u43, hinv⟩ := hinv
            obtain ⟨u44, hinv⟩ := hinv
            obtain ⟨u45, hinv⟩ := hinv
            obtain ⟨u46, hinv⟩ := hinv
            obtain ⟨u47, hinv⟩ := hinv
            obtain ⟨u48, hinv⟩ := hinv
            obtain ⟨u49, hinv⟩ := hinv
            obtain ⟨u50, hinv⟩ := hinv
            obtain ⟨u51, hinv⟩ := hinv
            obtain ⟨u52, hinv⟩ := hinv
            obtain ⟨u53, hinv⟩ := hinv
            obtain ⟨u54, hinv⟩ := hinv
            obtain ⟨u55, hinv⟩ := hinv
            obtain ⟨u56, hinv⟩ := hinv
            obtain ⟨u57, hinv⟩ := hinv
            obtain ⟨u58, hinv⟩ := hinv
            obtain ⟨u59, hinv⟩ := hinv
            obtain ⟨u60, hinv⟩ := hinv
            obtain ⟨u61, hinv⟩ := hinv
            obtain ⟨u62, hinv⟩ := hinv
            obtain ⟨u63, hinv⟩ := hinv
            obtain ⟨u64, hinv⟩ := hinv
            obtain ⟨u65, hinv⟩ := hinv
            obtain ⟨u66, hinv⟩ := hinv
            obtain ⟨u67, hinv⟩ := hinv
            obtain ⟨u68, hinv⟩ := hinv
            obtain ⟨u69, hinv⟩ := hinv
            obtain ⟨u70, hinv⟩ := hinv
            obtain ⟨u71, hinv⟩ := hinv
            obtain ⟨u72, hinv⟩ := hinv
            obtain ⟨u73, hinv⟩ := hinv
            obtain ⟨u74, hinv⟩ := hinv
            obtain ⟨u75, hinv⟩ := hinv
            obtain ⟨u76, hinv⟩ := hinv
            obtain ⟨rfl, rfl⟩ := hinv
            clear HOG HR7 R7 q1 q2 q3 q4 q5 v0 v1 v2 v3 e7
            cases hok : okG c ⟨(f1, f2), (t1, t2), wr, rm, cl, sg⟩ with
            | false =>
              have HOKX := Lib.hid hok
              rw [Bool.not_false]
              clear hok
              gi_wp2
              refine ⟨KeepsFrom.refl _ _, ⟨rfl, Nat.le_refl _⟩, ?_⟩
              show InW W1 Mb b10 ((List.map (fun x : LkG => x.1) (pre ++ [⟨⟨(f1, f2), (t1, t2), wr, rm, cl, sg⟩, hx⟩])).foldl (stepG c) ⟨σ.bef, 0⟩) _
              rw [HFD.out, stepG, if_neg (by rw [HOKX.out]; simp)]
              exact HIB.out.1
            | true =>
              have HOKX := Lib.hid hok
              rw [Bool.not_true]
              clear hok
              obtain ⟨o1, ho1⟩ : ∃ o, o = σp.bef (f1, f2) := ⟨_, rfl⟩
              obtain ⟨o2, ho2⟩ : ∃ o, o = σp.bef (t1, t2) := ⟨_, rfl⟩
              obtain ⟨p1, hp1⟩ : ∃ p, p = o1.isSome := ⟨_, rfl⟩
              obtain ⟨p2, hp2⟩ : ∃ p, p = o2.isSome := ⟨_, rfl⟩
              have HO := Lib.hid (And.intro ho1 (And.intro ho2 (And.intro hp1 hp2)))
              have hl1 := (HIB.out.1.bef.look HX.out.fr).2
              rw [show Lk.fr ⟨(f1, f2), (t1, t2), wr, rm, cl, sg⟩ = (f1, f2) from rfl, ← ho1, ← hp1] at hl1
              obtain ⟨ya, hya⟩ : ∃ y, y = o1.getD lk0 := ⟨_, rfl⟩
              obtain ⟨yb, hyb⟩ : ∃ y, y = o2.getD lk0 := ⟨_, rfl⟩
              rw [← hya] at hl1
              obtain ⟨Wa, hWa⟩ : ∃ Wa, Wa = w''.alloc (.cells (lkC ya).toArray 114) := ⟨_, rfl⟩
              have hba : Below w''.heap.size w'' Wa := by rw [hWa]; exact (Below.refl _ _).alloc (Nat.le_refl _) _
              have hia := HIB.out.1.grow hba
              have hl2 := (hia.bef.look HX.out.to_).2
              rw [show Lk.to_ ⟨(f1, f2), (t1, t2), wr, rm, cl, sg⟩ = (t1, t2) from rfl, ← ho2, ← hp2, ← hyb] at hl2
              obtain ⟨Wb, hWb⟩ : ∃ Wb, Wb = Wa.alloc (.cells (lkC yb).toArray 114) := ⟨_, rfl⟩
              have hbb : Below Wa.heap.size Wa Wb := by rw [hWb]; exact (Below.refl _ _).alloc (Nat.le_refl _) _
              have hb2 := hba.trans (hbb.mono hba.size)
              have HB2 := Lib.hid hb2
              have mvf : ∀ (p : Addr) (v : Value), w''.cell? p = some v → Wa.cell? p = some v := fun p v hv => by rw [hba.cell (cell_size hv)]; exact hv
              have mvg : ∀ (p : Addr) (v : Value), w''.cell? p = some v → Wb.cell? p = some v := fun p v hv => by rw [hb2.cell (cell_size hv)]; exact hv
              have a9 := mvf _ _ e9
              have a2 := mvf _ _ y2
              have a3 := mvf _ _ y3
              have b9_ := mvg _ _ e9
              have z0 := mvg _ _ y0
              have z1 := mvg _ _ y1
              have z2 := mvg _ _ y2
              have z3 := mvg _ _ y3
              have z4 := mvg _ _ y4
              have z5 := mvg _ _ y5
              have z6 := mvg _ _ y6
              have z7 := mvg _ _ y7
              clear hya hyb ho1 ho2 hp1 hp2 hia hba hbb hb2 mvf mvg y4 y5 y6 y7
              obtain ⟨⟨ya1, ya2⟩, ⟨ya3, ya4⟩, ya5, ya6, ya7, ya8⟩ := ya
              obtain ⟨⟨yb1, yb2⟩, ⟨yb3, yb4⟩, yb5, yb6, yb7, yb8⟩ := yb
              dsimp only [nodeV, lkV, lkC] at hl1 hl2 hWa hWb
              gi_upto_region 9 with fail
              rw [← hWa]
              clear hWa hl1 y0 y1 y2 y3 e9
              gi_upto_region 10 with fail
              rw [← hWb]
              clear hWb hl2 a9 a2 a3
              cases p1 with
              | false =>
                clear b9_ z0 z1 z2 z3 z4 z5 z6 z7
                gi_wp2
                refine ⟨keepsF_hole (bs := []) (HoleL.of_below HB2.out (Nat.le_refl _)) rfl (by simp), KeepG.of_below HB2.out (by have := HZ.out; have := HIB.out.1.hole.size; omega), ?_⟩
                show InW W1 Mb b10 ((List.map (fun x : LkG => x.1) (pre ++ [⟨⟨(f1, f2), (t1, t2), wr, rm, cl, sg⟩, hx⟩])).foldl (stepG c) ⟨σ.bef, 0⟩) _
                rw [HFD.out, stepG, if_pos HOKX.out, rch, reachS, if_neg (by rw [show Lk.fr ⟨(f1, f2), (t1, t2), wr, rm, cl, sg⟩ = (f1, f2) from rfl, show Lk.to_ ⟨(f1, f2), (t1, t2), wr, rm, cl, sg⟩ = (t1, t2) from rfl, ← HO.out.1, ← HO.out.2.1, ← HO.out.2.2.1, ← HO.out.2.2.2]; simp)]
                exact HIB.out.1.grow HB2.out
              | true =>
                cases p2 with
                | true =>
                  clear b9_ z0 z1 z2 z3 z4 z5 z6 z7
                  gi_wp2
                  refine ⟨keepsF_hole (bs := []) (HoleL.of_below HB2.out (Nat.le_refl _)) rfl (by simp), KeepG.of_below HB2.out (by have := HZ.out; have := HIB.out.1.hole.size; omega), ?_⟩
                  show InW W1 Mb b10 ((List.map (fun x : LkG => x.1) (pre ++ [⟨⟨(f1, f2), (t1, t2), wr, rm, cl, sg⟩, hx⟩])).foldl (stepG c) ⟨σ.bef, 0⟩) _
                  rw [HFD.out, stepG, if_pos HOKX.out, rch, reachS, if_neg (by rw [show Lk.fr ⟨(f1, f2), (t1, t2), wr, rm, cl, sg⟩ = (f1, f2) from rfl, show Lk.to_ ⟨(f1, f2), (t1, t2), wr, rm, cl, sg⟩ = (t1, t2) from rfl, ← HO.out.1, ← HO.out.2.1, ← HO.out.2.2.1, ← HO.out.2.2.2]; simp)]
                  exact HIB.out.1.grow HB2.out
                | false =>
                  have hib := HIB.out.1.grow HB2.out
                  obtain ⟨Wc, rc, hbc, hgc⟩ := hib.bef.put HX.out.to_ ⟨(f1, f2), (t1, t2), wr, rm, cl, sg⟩
                  have h10c : BoxN Wc b10 (σp.moved : Int) := (hgc.block b10 (heap_lt hib.a10) (fun e => HI.out.2.2.1.2.2.2.2.2.1 (by cases e; rfl))).trans hib.a10
                  obtain ⟨mw, hmw⟩ : ∃ m, m = σp.moved := ⟨_, rfl⟩
                  rw [← hmw] at h10c
                  have mb : (mw : Int) ≤ 72 := by have := HIB.out.2.1; omega
                  have m0 : (0 : Int) ≤ (mw : Int) := by omega
                  have k10 := h10c.cell
                  have f10 := h10c.free
                  have HC := Lib.hid (And.intro hbc (And.intro hgc (And.intro h10c hmw)))
                  dsimp only [nodeV, lkV, lkC] at rc
                  clear hib hbc hgc h10c hmw
                  gi_wp2
                  obtain ⟨hbc, hgc, h10c, hmw⟩ := HC.out
                  have hge := grown_set5 Wc b10 0 (.int .i64 ((mw : Int) + 1))
                  have nM : b10 ≠ Mb := HI.out.2.2.1.2.2.2.2.2.1
                  have hH : HoleL [Mb, b10] w''.heap.size w'' (Wc.setCell ⟨b10, 0, none⟩ (.int .i64 ((mw : Int) + 1))) := by
                    have a1 : HoleL [Mb, b10] w''.heap.size w'' Wb := HoleL.of_below HB2.out (Nat.le_refl _)
                    have a2 := a1.trans (HoleL.of_grown (bs := [Mb, b10]) hgc (by simp) a1.size) (Nat.le_refl _)
                    exact a2.trans (HoleL.of_grown (bs := [Mb, b10]) hge (by simp) a2.size) (Nat.le_refl _)
                  refine ⟨keepsF_hole hH rfl (by have := HZ.out; simp; omega), KeepG.of_hole hH (by have := HZ.out; have := HIB.out.1.hole.size; omega) (by have := HZ.out; simp; omega), ?_⟩
                  show InW W1 Mb b10 ((List.map (fun x : LkG => x.1) (pre ++ [⟨⟨(f1, f2), (t1, t2), wr, rm, cl, sg⟩, hx⟩])).foldl (stepG c) ⟨σ.bef, 0⟩) _
                  rw [HFD.out, stepG, if_pos HOKX.out, rch, reachS, if_pos (by rw [show Lk.fr ⟨(f1, f2), (t1, t2), wr, rm, cl, sg⟩ = (f1, f2) from rfl, show Lk.to_ ⟨(f1, f2), (t1, t2), wr, rm, cl, sg⟩ = (t1, t2) from rfl, ← HO.out.1, ← HO.out.2.1, ← HO.out.2.2.1, ← HO.out.2.2.2]; simp)]
                  refine ⟨MapAt.of_heap hbc (hge.block Mb (MapAt.lt hbc) (fun e => nM (by cases e; rfl))), ?_, HIB.out.1.hole.trans hH HIB.out.1.hole.size⟩
                  have h9 := h10c.set ((mw : Int) + 1)
                  rw [hmw] at h9 ⊢
                  exact h9
        case done =>
          intro D ys W' hD hys hi hDK
          obtain ⟨σn, hσn⟩ : ∃ σn, σn = roundS Lk.fr Lk.to_ ((liveL s.sh (tat t)).filter (okG c)) σ := ⟨_, rfl⟩
          have hi' : InW W1 Mb b10 ((ys.map (fun x : LkG => x.1)).foldl (stepG c) ⟨σ.bef, 0⟩) W' := hi
          have hfold : (ys.map (fun x : LkG => x.1)).foldl (stepG c) ⟨σ.bef, 0⟩ = σn := by rw [hys, HLL.out.1, foldG, hσn]; rfl
          rw [hfold] at hi'
          have hgl : ∀ x ∈ liveL s.sh (tat t), Good x := fun x hx => links_good HT.out x (List.mem_filter.1 hx).1
          have hlen : (liveL s.sh (tat t)).length ≤ 72 := by rw [← HLL.out.1, List.length_map]; exact HLL.out.2
          have hfold2 : (liveL s.sh (tat t)).foldl (stepG c) ⟨σ.bef, 0⟩ = σn := by rw [foldG, hσn]; rfl
          have HOK2 : Hid (OkS σn ∧ σn.moved ≤ 72) := Lib.hid (by
            have h1 := OkS.fold c (liveL s.sh (tat t)) hgl HOS.out
            have h2 := movedG_le c (liveL s.sh (tat t)) ⟨σ.bef, 0⟩
            rw [hfold2] at h1 h2
            simp only at h2
            exact ⟨h1, by omega⟩)
          obtain ⟨Dn, Tn, hinv, hfl, hlt⟩ := HMV.out
          obtain ⟨k', rfl, D', T', hinv', hcase⟩ := flood_next (fun x hx => live_nodes HT.out.ok x (List.mem_filter.1 hx).1) hinv hlt
          rw [hfl, ← hσn] at hcase
          rw [← hσn] at hinv'
          have h10f := HI.out.2.2.1
          have hAt : AtW w b5 b6 b7 b9 Mb (s1, s2) (d1, d2) c σn.bef (D :: rs) W' := by
            refine (HA1.out.1.hole HNE.out hi'.hole ⟨h10f.1, h10f.2.1, h10f.2.2.1, h10f.2.2.2.1, h10f.2.2.2.2.1, h10f.2.2.2.2.2.2⟩ hi'.bef).mark (by have := HZ.out; omega) (fun r hr => ?_) hDK
            have := heap_lt (HA1.out.1.marks r hr).2
            omega
          have HDS : Hid (MarksOk ({ target := .collected D, args := #[] } :: ds) (D :: rs)) := Lib.hid (by rw [MarksOk, hds, List.map_cons])
          obtain ⟨mw, hmw⟩ : ∃ m, m = σn.moved := ⟨_, rfl⟩
          have ha10 := hi'.a10
          rw [← hmw] at ha10
          have c10 := ha10.cell
          obtain ⟨Wn, hWn⟩ : ∃ Wn, Wn = W'.alloc (.cells #[.int .i64 (mw : Int)] 3) := ⟨_, rfl⟩
          have hbn : Below W'.heap.size W' Wn := by rw [hWn]; exact (Below.refl _ _).alloc (Nat.le_refl _) _
          have hnn : BoxN Wn W'.heap.size (mw : Int) := by rw [hWn]; exact heap_alloc_last _ _
          have HN := Lib.hid (And.intro (hAt.grow hbn) (And.intro hnn (And.intro hmw (And.intro hAt (And.intro hinv' hcase)))))
          clear hi hi' hfold hgl hlen hfold2 hinv hfl hlt hinv' hcase h10f hAt ha10 hbn hnn hmw hσn hDK hys hD
          gi_wp2
          go_wp2_with fail
          rw [← hWn]
          refine Handed.intro k' (by omega) (hJ _ _ _ ⟨{ target := .collected D, args := #[] } :: ds, D :: rs, W'.heap.size, mw, σn, ?_⟩)
          (repeat apply Exists.intro)
          refine ⟨rfl, HDS.out, Lib.hid ⟨HN.out.1, HN.out.2.1, ?_, by rw [HN.out.2.2.1]; exact HOK2.out.2, HOK2.out.1, D', T', HN.out.2.2.2.2.1, ?_⟩⟩
          · have a := HN.out.2.2.2.1
            have l5 := heap_lt a.n5
            have l6 := heap_lt a.n6
            have l7 := heap_lt a.c7
            have l9 := cell_size a.c9
            have lM := MapAt.lt a.bef
            have lb := a.below.size
            simp only at l9
            refine ⟨by omega, by omega, by omega, by omega, by omega, by omega, fun r hr => ?_⟩
            have := heap_lt (a.marks r hr).2
            omega
          · rw [HN.out.2.2.1]
            rcases HN.out.2.2.2.2.2 with ⟨g1, g2⟩ | ⟨g1, g2, g3⟩
            · exact .inl ⟨g1, g2.symm⟩
            · exact .inr ⟨g1, g2.symm, g3⟩
  case rest =>
    clear HAT H10 b10
    rintro a1 W1 hinv
    obtain ⟨ds, rs, b10, hinv⟩ := hinv
    obtain ⟨u4, hinv⟩ := hinv
    obtain ⟨u11, hinv⟩ := hinv
    obtain ⟨u12, hinv⟩ := hinv
    obtain ⟨u13, hinv⟩ := hinv
    obtain ⟨u14, hinv⟩ := hinv
    obtain ⟨u15, hinv⟩ := hinv
    obtain ⟨u16, hinv⟩ := hinv
    obtain ⟨u17, hinv⟩ := hinv
    obtain ⟨u18, hinv⟩ := hinv
    obtain ⟨u19, hinv⟩ := hinv
    obtain ⟨u20, hinv⟩ := hinv
    obtain ⟨u21, hinv⟩ := hinv
    obtain ⟨u22, hinv⟩ := hinv
    obtain ⟨u23, hinv⟩ := hinv
    obtain ⟨u24, hinv⟩ := hinv
    obtain ⟨u25, hinv⟩ := hinv
    obtain ⟨u26, hinv⟩ := hinv
    obtain ⟨u27, hinv⟩ := hinv
    obtain ⟨u28, hinv⟩ := hinv
    obtain ⟨u29, hinv⟩ := hinv
    obtain ⟨u30, hinv⟩ := hinv
    obtain ⟨u31, hinv⟩ := hinv
    obtain ⟨u32, hinv⟩ := hinv
    obtain ⟨u33, hinv⟩ := hinv
    obtain ⟨u34, hinv⟩ := hinv
    obtain ⟨u35, hinv⟩ := hinv
    obtain ⟨u36, hinv⟩ := hinv
    obtain ⟨u37, hinv⟩ := hinv
    obtain ⟨u38, hinv⟩ := hinv
    obtain ⟨u39, hinv⟩ := hinv
    obtain ⟨u40, hinv⟩ := hinv
    obtain ⟨u41, hinv⟩ := hinv
    obtain ⟨u42, hinv⟩ := hinv
    obtain ⟨u43, hinv⟩ := hinv
    obtain ⟨u44, hinv⟩ := hinv
    obtain ⟨u45, hinv⟩ := hinv
    obtain ⟨u46, hinv⟩ := hinv
    obtain ⟨u47, hinv⟩ := hinv
    obtain ⟨u48, hinv⟩ := hinv
    obtain ⟨u49, hinv⟩ := hinv
    obtain ⟨u50, hinv⟩ := hinv
    obtain ⟨u51, hinv⟩ := hinv
    obtain ⟨u52, hinv⟩ := hinv
    obtain ⟨u53, hinv⟩ := hinv
    obtain ⟨u54, hinv⟩ := hinv
    obtain ⟨u55, hinv⟩ := hinv
    obtain ⟨u56, hinv⟩ := hinv
    obtain ⟨u57, hinv⟩ := hinv
    obtain ⟨u58, hinv⟩ := hinv
    obtain ⟨u59, hinv⟩ := hinv
    obtain ⟨u60, hinv⟩ := hinv
    obtain ⟨u61, hinv⟩ := hinv
    obtain ⟨u62, hinv⟩ := hinv
    obtain ⟨u63, hinv⟩ := hinv
    obtain ⟨u64, hinv⟩ := hinv
    obtain ⟨u65, hinv⟩ := hinv
    obtain ⟨u66, hinv⟩ := hinv
    obtain ⟨u67, hinv⟩ := hinv
    obtain ⟨u68, hinv⟩ := hinv
    obtain ⟨u69, hinv⟩ := hinv
    obtain ⟨u70, hinv⟩ := hinv
    obtain ⟨u71, hinv⟩ := hinv
    obtain ⟨u72, hinv⟩ := hinv
    obtain ⟨u73, hinv⟩ := hinv
    obtain ⟨u74, hinv⟩ := hinv
    obtain ⟨u75, hinv⟩ := hinv
    obtain ⟨u76, hinv⟩ := hinv
    obtain ⟨u77, hinv⟩ := hinv
    obtain ⟨u78, hinv⟩ := hinv
    obtain ⟨u79, hinv⟩ := hinv
    obtain ⟨u80, hinv⟩ := hinv
    obtain ⟨u81, hinv⟩ := hinv
    obtain ⟨u82, hinv⟩ := hinv
    obtain ⟨u83, hinv⟩ := hinv
    obtain ⟨u84, hinv⟩ := hinv
    obtain ⟨u85, hinv⟩ := hinv
    obtain ⟨u86, hinv⟩ := hinv
    obtain ⟨u87, hinv⟩ := hinv
    obtain ⟨u88, hinv⟩ := hinv
    obtain ⟨u89, hinv⟩ := hinv
    obtain ⟨u90, hinv⟩ := hinv
    obtain ⟨u91, hinv⟩ := hinv
    obtain ⟨u92, hinv⟩ := hinv
    obtain ⟨u93, hinv⟩ := hinv
    obtain ⟨u94, hinv⟩ := hinv
    obtain ⟨u95, hinv⟩ := hinv
    obtain ⟨u96, hinv⟩ := hinv
    obtain ⟨u97, hinv⟩ := hinv
    obtain ⟨u98, hinv⟩ := hinv
    obtain ⟨u99, hinv⟩ := hinv
    obtain ⟨u100, hinv⟩ := hinv
    obtain ⟨u101, hinv⟩ := hinv
    obtain ⟨u102, hinv⟩ := hinv
    obtain ⟨u103, hinv⟩ := hinv
    obtain ⟨u104, hinv⟩ := hinv
    obtain ⟨u105, hinv⟩ := hinv
    obtain ⟨u106, hinv⟩ := hinv
    obtain ⟨u107, hinv⟩ := hinv
    obtain ⟨u108, hinv⟩ := hinv
    obtain ⟨u109, hinv⟩ := hinv
    obtain ⟨u110, hinv⟩ := hinv
    obtain ⟨u111, hinv⟩ := hinv
    obtain ⟨u112, hinv⟩ := hinv
    obtain ⟨u113, hinv⟩ := hinv
    obtain ⟨u114, hinv⟩ := hinv
    obtain ⟨u115, hinv⟩ := hinv
    obtain ⟨u116, hinv⟩ := hinv
    obtain ⟨u117, hinv⟩ := hinv
    obtain ⟨u118, hinv⟩ := hinv
    obtain ⟨u119, hinv⟩ := hinv
    obtain ⟨u120, hinv⟩ := hinv
    obtain ⟨u121, hinv⟩ := hinv
    obtain ⟨u122, hinv⟩ := hinv
    obtain ⟨u123, hinv⟩ := hinv
    obtain ⟨u124, hinv⟩ := hinv
    obtain ⟨u125, hinv⟩ := hinv
    obtain ⟨u126, hinv⟩ := hinv
    obtain ⟨u127, hinv⟩ := hinv
    obtain ⟨u128, hinv⟩ := hinv
    obtain ⟨u129, hinv⟩ := hinv
    obtain ⟨u130, hinv⟩ := hinv
    obtain ⟨u131, hinv⟩ := hinv
    obtain ⟨u132, hinv⟩ := hinv
    obtain ⟨u133, hinv⟩ := hinv
    obtain ⟨u134, hinv⟩ := hinv
    obtain ⟨u135, hinv⟩ := hinv
    obtain ⟨u136, hinv⟩ := hinv
    obtain ⟨u137, hinv⟩ := hinv
    obtain ⟨u138, hinv⟩ := hinv
    obtain ⟨u139, hinv⟩ := hinv
    obtain ⟨u140, hinv⟩ := hinv
    obtain ⟨rfl, hds, HI⟩ := hinv
    have c9 := HI.out.1.c9
    obtain ⟨es0, clk, W2, hrun, hR, hb2, hs2, hM⟩ := rng_new HI.out.1.bef
    have HR0 := Lib.hid (And.intro hR (And.intro hb2 (And.intro hs2 hM)))
    clear hR hb2 hs2 hM
    go_upto_block 4 with fail
    clear hrun c9
    obtain ⟨r, hr⟩ : ∃ r, r = W1.heap.size := ⟨_, rfl⟩
    rw [← hr] at HR0 ⊢
    have HRR := Lib.hid hr
    clear hr
    have HAT2 : Hid (AtW w b5 b6 b7 b9 Mb (s1, s2) (d1, d2) c F.bef rs W2 ∧ r < W2.heap.size ∧ b6 ≠ r ∧ b9 ≠ r ∧ Mb ≠ r ∧ b5 ≠ r ∧ w.heap.size ≤ r) := Lib.hid (by
      have a := HI.out.1
      have l5 := heap_lt a.n5
      have l6 := heap_lt a.n6
      have l9 := cell_size a.c9
      have lM := MapAt.lt a.bef
      have h1 := HRR.out
      have h2 := HR0.out.2.2.1
      have h3 := a.below.size
      simp only at l9
      have hb := HR0.out.2.1
      rw [HRR.out] at hb
      exact ⟨a.grow hb, by omega, by omega, by omega, by omega, by omega, by omega⟩)
    cases hd : F.bef (d1, d2) with
    | none =>
      have HD := Lib.hid hd
      clear hd
      refine wp_block ?_
      go_loopg [107] es0.size (fun n _ wr => Hid (∃ es c0 seen, Rng wr Mb r es clk clk c0 seen ∧ (∀ x ∈ es.toList, x ∈ es0.toList) ∧ (∀ x ∈ es.toList, seen.contains x.born = false) ∧ n = es.size ∧ HoleL [Mb, r] W2.heap.size W2 wr))
      case atStart => exact Lib.hid ⟨es0, _, _, HR0.out.1, fun _ h => h, fun x _ => by simp, rfl, HoleL.refl _ _ _⟩
      case round =>
        obtain ⟨es, c0, seen, hR, hsub, hun, hn, hH⟩ := hrel.out
        have a := HAT2.out
        have nb : ∀ k, k < W2.heap.size → k ≠ Mb → k ≠ r → wr.heap[k]? = W2.heap[k]? := fun k hk h1 h2 => hH.block k hk (by simp; exact ⟨h1, h2⟩)
        have n6 : NodeAt wr b6 (d1, d2) := a.1.n6.of_heap (nb _ (heap_lt a.1.n6) HNE.out.n6 a.2.2.1)
        have c9 : wr.cell? ⟨b9, 0, none⟩ = some (.map (some Mb)) := by
          rw [World.cell?_of_block (w := W2) (nb b9 (cell_size a.1.c9) HNE.out.n9 a.2.2.2.1)]; exact a.1.c9
        rcases hR.next 0 with ⟨h0, hnx⟩ | ⟨e, k, W', he, okk, hk, hnx, hR', hg', hs', hen⟩
        · -- none is left: the map is empty
          have hes : es.size = 0 := by
            have := all_seen es seen h0
            by_cases hz : es.size = 0
            · exact hz
            · have hm : es[0]'(by omega) ∈ es.toList := by simp
              have h1 := this _ hm
              rw [hun _ hm] at h1
              cases h1
          have hmt : wr.heap[Mb]? = some (.map #[] clk) := by
            have := hR.m
            rw [Array.eq_empty_of_size_eq_zero hes] at this
            exact this
          have n6c0 := n6.c0
          have n6c1 := n6.c1
          dsimp only at n6c0 n6c1
          have HEND := Lib.hid (And.intro hR (And.intro hmt hH))
          clear hR hsub hun nb n6 h0 hes hmt hH hn
          obtain ⟨wq, rfl⟩ : ∃ wq : World, wq = wr := ⟨_, rfl⟩
          obtain ⟨Wk, hWk⟩ : ∃ Wk, Wk = wq.alloc (.cells #[.int .i64 d1, .int .i64 d2] 92) := ⟨_, rfl⟩
          have hbk : Below wq.heap.size wq Wk := by rw [hWk]; exact (Below.refl _ _).alloc (Nat.le_refl _) _
          have HK := Lib.hid (And.intro ((hbk.block _ (heap_lt HEND.out.1.m)).trans HEND.out.2.1) (And.intro ((hbk.cell (cell_size c9)).trans c9) (HEND.out.2.2.trans (HoleL.of_below hbk (Nat.le_refl _)) HEND.out.2.2.size)))
          clear hbk
          go_wp2_with fail
          rw [← hWk]
          clear hWk n6c0 n6c1 c9 hnx
          obtain ⟨bE, hbE⟩ : ∃ b, b = wq.heap.size := ⟨_, rfl⟩
          rw [← hbE]
          clear hbE
          go_loopg [19, 20] 0 (fun n v19 v20 wx => v19 = .slice none 0 0 ∧ v20 = .pointer (some ⟨bE, 0, none⟩) ∧ wx = Wk)
          case atStart => exact ⟨rfl, rfl, rfl⟩
          case round =>
            obtain ⟨rfl, rfl, rfl⟩ := hrel
            obtain ⟨wv, rfl⟩ : ∃ wv : World, wv = wr := ⟨_, rfl⟩
            have c9 := HK.out.2.1
            have hmt := HK.out.1
            have hln : ∀ ty, (Builtin.len_ #[116] ty #[.map (some Mb)]).run Tryd.prog wv = .ok (.int .i64 0) wv := fun ty => Go.run_len_map wv _ ty Mb #[] clk (by kernel_rfl) hmt
            clear hmt
            go_wp2_with fail
            obtain ⟨lv1, lv2⟩ := HAT2.out.1.leave HNE.out HR0.out.1.it HAT2.out.2.2.2.2.2.2 HK.out.2.2
            show LeavesInM Fence.wide 9 Tryd.prog Tryd.f81 _ _ ds .returning wv
            rw [hds]
            refine leaves_marks (.slice none 0 0) rs wv HAT2.out.1.nd lv1 fun W'' hk ho ht hu hs => ⟨by rw [results_tmp (t := 8) rfl]; rfl, _, rfl, by rw [HOUT.out, HD.out]; exact ⟨rfl, .inl ⟨rfl, rfl⟩⟩, below_marks lv2 (fun x hx => (HAT2.out.1.marks x hx).1) hk ho ht hu hs⟩
        · have hkey := no_key HI.out.1.bef HR0.out.2.2.2 HOK.out.2 HD.out
          have hnk : ∀ x ∈ es.toList, x.key ≠ nodeV (d1, d2) := fun x hx => hkey x (hsub x hx)
          obtain ⟨k1, k2⟩ := k
          obtain ⟨Wk, hWk⟩ : ∃ Wk, Wk = W'.alloc (.cells #[.int .i64 k1, .int .i64 k2] 92) := ⟨_, rfl⟩
          have hbk : Below W'.heap.size W' Wk := by rw [hWk]; exact (Below.refl _ _).alloc (Nat.le_refl _) _
          have hnK : NodeAt Wk W'.heap.size (k1, k2) := by rw [hWk]; exact heap_alloc_last _ _
          have hRk := hR'.below hbk
          have hlk := hRk.none HOK.out.2 hnk
          have n6' : NodeAt Wk b6 (d1, d2) := (n6.of_heap (hg'.block _ (heap_lt n6) (fun e => a.2.2.1 (by cases e; rfl)))).of_heap (hbk.block _ (by have := heap_lt n6; omega))
          have c9' : Wk.cell? ⟨b9, 0, none⟩ = some (.map (some Mb)) := (hbk.cell (by have := cell_size c9; simp only at this ⊢; omega)).trans (hg'.cell c9 (fun e => a.2.2.2.1 (by cases e; rfl)))
          obtain ⟨Wl, hWl⟩ : ∃ Wl, Wl = Wk.alloc (.cells #[.int .i64 0, .int .i64 0, .int .i64 0, .int .i64 0, .int .i64 0, .int .i64 0, .int .i64 0, .int .i64 0] 114) := ⟨_, rfl⟩
          have hbl : Below Wk.heap.size Wk Wl := by rw [hWl]; exact (Below.refl _ _).alloc (Nat.le_refl _) _
          have hRl := hRk.below hbl
          obtain ⟨es', Wm, hdel, hRm, hgm, hsz, hsub', hun'⟩ := hRl.del he okk hk 0 hun
          have n6c0 := n6'.c0
          have n6c1 := n6'.c1
          have hnK2 : NodeAt Wl W'.heap.size (k1, k2) := hnK.of_heap (hbl.block _ (heap_lt hnK))
          have k0 := hnK2.c0
          have k1_ := hnK2.c1
          have c9l := (hbl.cell (cell_size c9')).trans c9'
          have hHm : HoleL [Mb, r] W2.heap.size W2 Wm := by
            have h1 := hH.trans (HoleL.of_grown (bs := [Mb, r]) hg' (by simp) hH.size) (Nat.le_refl _)
            have h1 : HoleL [Mb, r] W2.heap.size W2 W' := h1
            have h2 := h1.trans (HoleL.of_below hbk (Nat.le_refl _)) h1.size
            have h3 := h2.trans (HoleL.of_below hbl (Nat.le_refl _)) h2.size
            exact h3.trans (HoleL.of_grown (bs := [Mb, r]) hgm (by simp) h3.size) (Nat.le_refl _)
          have HM := Lib.hid (And.intro hRm (And.intro hsz (And.intro (fun x hx => hsub x (hsub' x hx)) (And.intro hun' (And.intro hHm hn)))))
          dsimp only at n6c0 n6c1 k0 k1_
          dsimp only [nodeV, lkV, lkC, lk0] at hlk hdel hnx hen
          clear hR hsub hun nb n6 c9 hR' hg' hs' hkey hnk hnK hbk hRk n6' hbl hRl hRm hgm hsz hsub' hun' hnK2 hHm he hk a hH hn
          go_upto_region 18 with fail
          rw [← hWk]
          clear hWk hnx hen
          go_upto_region 19 with fail
          rw [← hWl]
          clear hWl hlk n6c0 n6c1 c9'
          go_wp2_with fail
          go_roundg es'.size
          case measure => have h1 := HM.out.2.1; have h2 := HM.out.2.2.2.2.2; omega
          case rel => exact Lib.hid ⟨es', _, _, HM.out.1, HM.out.2.2.1, HM.out.2.2.2.1, rfl, HM.out.2.2.2.2.1⟩
    | some x0 =>
      have HD := Lib.hid hd
      clear hd
      refine wp_block ?_
      go_loopg [107] (leftOf es0 #[]).size (fun n _ wr => Hid (∃ c0 seen, Rng wr Mb r es0 clk clk c0 seen ∧ n = (leftOf es0 seen).size ∧ HoleL [r] W2.heap.size W2 wr))
      case atStart => exact Lib.hid ⟨_, _, HR0.out.1, rfl, HoleL.refl _ _ _⟩
      case round =>
        obtain ⟨c0, seen, hR, hn, hH⟩ := hrel.out
        have a := HAT2.out
        have nb : ∀ k, k < W2.heap.size → k ≠ r → wr.heap[k]? = W2.heap[k]? := fun k hk h2 => hH.block k hk (by simp; exact h2)
        have n6 : NodeAt wr b6 (d1, d2) := a.1.n6.of_heap (nb _ (heap_lt a.1.n6) a.2.2.1)
        have n5 : NodeAt wr b5 (s1, s2) := a.1.n5.of_heap (nb _ (heap_lt a.1.n5) a.2.2.2.2.2.1)
        have c9 : wr.cell? ⟨b9, 0, none⟩ = some (.map (some Mb)) := by
          rw [World.cell?_of_block (w := W2) (nb b9 (cell_size a.1.c9) a.2.2.2.1)]; exact a.1.c9
        have hbf : BefAt wr Mb F.bef := MapAt.of_heap a.1.bef (nb _ (MapAt.lt a.1.bef) a.2.2.2.2.1)
        rcases hR.next 0 with ⟨h0, hnx⟩ | ⟨e, k, W', he, okk, hk, hnx, hR', hg', hs', hen⟩
        · have n6c0 := n6.c0
          have n6c1 := n6.c1
          dsimp only at n6c0 n6c1
          have HEND := Lib.hid (And.intro hR (And.intro n5 (And.intro hbf (And.intro n6 hH))))
          clear hR nb n6 n5 hbf h0 hH hn a
          obtain ⟨wq, rfl⟩ : ∃ wq : World, wq = wr := ⟨_, rfl⟩
          obtain ⟨Wk, hWk⟩ : ∃ Wk, Wk = wq.alloc (.cells #[.int .i64 d1, .int .i64 d2] 92) := ⟨_, rfl⟩
          have hbk : Below wq.heap.size wq Wk := by rw [hWk]; exact (Below.refl _ _).alloc (Nat.le_refl _) _
          have hnE : NodeAt Wk wq.heap.size (d1, d2) := by rw [hWk]; exact heap_alloc_last _ _
          have HK := Lib.hid (And.intro hbk (And.intro hnE ((hbk.cell (cell_size c9)).trans c9)))
          clear hbk hnE
          go_wp2_with fail
          rw [← hWk]
          clear hWk n6c0 n6c1 c9 hnx
          have HALL : Hid (∀ V, Below Wk.heap.size Wk V → V.cell? ⟨b9, 0, none⟩ = some (.map (some Mb)) ∧ BefAt V Mb F.bef ∧ V.heap[Mb]? = some (.map es0 clk) ∧ NodeAt V b5 (s1, s2)) := Lib.hid fun V hV => by
            have hbk := HK.out.1
            have hs := hbk.size
            have hbV : Below wq.heap.size wq V := hbk.trans (hV.mono hs)
            exact ⟨(hV.cell (cell_size HK.out.2.2)).trans HK.out.2.2, MapAt.of_heap HEND.out.2.2.1 (hbV.block _ (MapAt.lt HEND.out.2.2.1)), (hbV.block _ (heap_lt HEND.out.1.m)).trans HEND.out.1.m, HEND.out.2.1.of_heap (hbV.block _ (heap_lt HEND.out.2.1))⟩
          obtain ⟨Dn, Tn, hI⟩ := HI.out.2.2
          have HSR := Lib.hid hI
          have hTd : Tn (d1, d2) < manyS s.sh + 1 := by
            have h1 := hI.lt (d1, d2) ((hI.mem _).2 (by rw [HD.out]; rfl))
            have h2 := nodup_le Dn _ hI.nd hI.sub
            have h3 : (nodesS s.sh).length = manyS s.sh := by simp [nodesS, manyS] <;> omega
            omega
          have HM12 : Hid (manyS s.sh ≤ 12) := Lib.hid (by have := HT.out.n5; have := HT.out.m5; rw [manyS, ShM.len0, ShM.len1]; omega)
          have hes0 : 0 < es0.size := by
            have hM := HR0.out.2.2.2
            rcases Nat.eq_zero_or_pos es0.size with h0 | h0
            · exfalso
              obtain ⟨es', cl', hb, _, _, hF⟩ := MapAt.ex HI.out.1.bef
              rw [hM] at hb
              have := Option.some.inj hb
              injection this with e1 e2
              rcases hF (d1, d2) HOK.out.2 with ⟨x, hx, _⟩ | ⟨_, hx⟩
              · rw [← e1, Array.eq_empty_of_size_eq_zero h0] at hx; simp at hx
              · rw [HD.out] at hx; cases hx
            · exact h0
          have hsz0 : (0 : Int) < (es0.size : Int) := by omega
          have HST0 : Hid (out = [] ++ pathB Lk.fr F.bef lk0 (s1, s2) (manyS s.sh + 1) (d1, d2) ∧ Tn (d1, d2) < manyS s.sh + 1) := Lib.hid ⟨by rw [HOUT.out, HD.out]; rfl, hTd⟩
          obtain ⟨bE0, hbE0⟩ : ∃ b, b = wq.heap.size := ⟨_, rfl⟩
          have HE0 : Hid (NodeAt Wk bE0 (d1, d2)) := Lib.hid (by rw [hbE0]; exact HK.out.2.1)
          rw [← hbE0]
          clear hbE0 hI hTd hes0
          obtain ⟨sz, hszn⟩ : ∃ sz, sz = es0.size := ⟨_, rfl⟩
          rw [← hszn] at hsz0
          have HSZ := Lib.hid hszn
          clear hszn
          go_loopg [19, 20] (manyS s.sh + 1) (fun k v19 v20 wr => ∃ (bE n : Nat) (A : Option Addr) (cc : Nat), v19 = .slice A n cc ∧ v20 = .pointer (some ⟨bE, 0, none⟩) ∧ Hid (∃ (v : Int × Int) (acc : List Lk), acc.length = n ∧ out = acc ++ pathB Lk.fr F.bef lk0 (s1, s2) k v ∧ (F.bef v).isSome = true ∧ Tn v < k ∧ okN v ∧ NodeAt wr bE v ∧
            wr.ownsRow Wk.heap.size 114 8 (.slice A n cc) n (lksC acc) ∧ Below Wk.heap.size Wk wr ∧ n + k ≤ 14))
          case atStart => exact ⟨bE0, 0, none, 0, rfl, rfl, Lib.hid ⟨(d1, d2), [], rfl, HST0.out.1, by rw [HD.out]; rfl, HST0.out.2, HOK.out.2, HE0.out, ⟨rfl, .inl ⟨rfl, rfl⟩⟩, Below.refl _ _, by have := HM12.out; omega⟩⟩
          case round =>
            obtain ⟨bE, n, A, cc, rfl, rfl, HP⟩ := hrel
            obtain ⟨wv, rfl⟩ : ∃ wv : World, wv = wr := ⟨_, rfl⟩
            obtain ⟨v, acc, hal, hout, hsome, hTv, okv, hnE, hown, hbW, hn14⟩ := HP.out
            obtain ⟨k, rfl⟩ : ∃ k, gk = k + 1 := ⟨gk - 1, by omega⟩
            obtain ⟨c9, hbf, hmt, n5⟩ := HALL.out wv hbW
            have hln : ∀ ty, (Builtin.len_ #[116] ty #[.map (some Mb)]).run Tryd.prog wv = .ok (.int .i64 (sz : Int)) wv := fun ty => by rw [HSZ.out]; exact Go.run_len_map wv _ ty Mb es0 clk (by kernel_rfl) hmt
            obtain ⟨va, vb⟩ := v
            have k0 := hnE.c0
            have k1 := hnE.c1
            have s0_ := n5.c0
            have s1_ := n5.c1
            dsimp only at k0 k1 s0_ s1_
            obtain ⟨nq, hnq⟩ : ∃ b, b = decide (¬ ((va, vb) : Int × Int) = (s1, s2)) := ⟨_, rfl⟩
            have q1 : ∀ W, (binOp .neq 92 (.agg #[.int .i64 va, .int .i64 vb]) (.agg #[.int .i64 s1, .int .i64 s2])).run Tryd.prog W = .ok (.bool nq) W := fun W => by rw [hnq]; exact neq_node2 W _ _ _ _
            have HNQ := Lib.hid hnq
            have HP2 := Lib.hid (And.intro hal (And.intro hout (And.intro hsome (And.intro hTv (And.intro okv (And.intro hnE (And.intro hown (And.intro hbW hn14))))))))
            cases nq with
            | false =>
              have hve : ((va, vb) : Int × Int) = (s1, s2) := by
                have := HNQ.out
                by_cases h : ((va, vb) : Int × Int) = (s1, s2)
                · exact h
                · rw [decide_eq_true h] at this; cases this
              have HRES : Hid (out = acc) := Lib.hid (by rw [hout, hve, pathB, if_pos rfl, List.append_nil])
              clear hmt hbf n5 hnE hown hbW hal hout hsome hTv okv hn14 hve hnq
              go_wp2_with fail
              have hW2 : HoleL [Mb, r] W2.heap.size W2 wv := by
                have h1 := HEND.out.2.2.2.2
                have h2 := h1.trans (HoleL.of_below HK.out.1 (Nat.le_refl _)) h1.size
                exact (h2.trans (HoleL.of_below HP2.out.2.2.2.2.2.2.2.1 (Nat.le_refl _)) h2.size).more (fun b hb => .inl (by simp at hb; simp [hb]))
              obtain ⟨lv1, lv2⟩ := HAT2.out.1.leave HNE.out HR0.out.1.it HAT2.out.2.2.2.2.2.2 hW2
              show LeavesInM Fence.wide 9 Tryd.prog Tryd.f81 _ _ ds .returning wv
              rw [hds]
              refine leaves_marks (.slice A n cc) rs wv HAT2.out.1.nd lv1 fun W'' hk ho ht hu hs => ⟨by rw [results_tmp (t := 8) rfl]; rfl, _, rfl, ?_, below_marks lv2 (fun x hx => (HAT2.out.1.marks x hx).1) hk ho ht hu hs⟩
              rw [HRES.out, HP2.out.1]
              refine own_lower (own_kept HP2.out.2.2.2.2.2.2.1 fun k o hv2 hn => (hk k (fun hm => ?_)).trans hv2) (by have h1 := HI.out.1.below.size; have h2 := HR0.out.2.1.size; have h3 := HEND.out.2.2.2.2.size; have h4 := HK.out.1.size; have h5 := HRR.out; omega)
              have := lv1 k hm
              rw [hv2] at this
              exact hn _ (Option.some.inj this)
            | true =>
              have hne : ¬ ((va, vb) : Int × Int) = (s1, s2) := of_decide_eq_true HNQ.out.symm
              obtain ⟨x, hx0⟩ := Option.isSome_iff_exists.1 hsome
              obtain ⟨_, _, hs', hT'⟩ := HSR.out.bf (va, vb) x hx0 hne
              have okx := (HI.out.2.1 (va, vb) x hx0).fr
              have hpath : pathB Lk.fr F.bef lk0 (s1, s2) (k + 1) (va, vb) = x :: pathB Lk.fr F.bef lk0 (s1, s2) k x.fr := by rw [pathB, if_neg hne, hx0]; rfl
              have hl1 := (hbf.look okv).1
              rw [hx0, Option.getD_some] at hl1
              have HNX := Lib.hid (And.intro hpath (And.intro hs' (And.intro hT' (And.intro okx hx0))))
              have hfd := field_fr
              clear hpath hs' hT' okx hnq hne hsome hmt n5
              obtain ⟨⟨f1, f2⟩, ⟨t1, t2⟩, wr_, rm, cl, sg⟩ := x
              dsimp only [nodeV, lkV, lkC] at hl1
              have hbp : Below wv.heap.size wv (wv.alloc (.cells #[.int .i64 f1, .int .i64 f2, .int .i64 t1, .int .i64 t2, .int .i64 wr_, .int .i64 rm, .int .i64 cl, .int .i64 sg] 114)) := (Below.refl _ _).alloc (Nat.le_refl _) _
              have HOP := Lib.hid (And.intro (pw_own_below hown hbp) hbp)
              clear hbf hown hbp hnE hbW hal hout hTv okv hx0
              go_upto_region 26 with (first | (at_builtin; refine wpList_push_own rfl (.tmp 133) (.tmp 137) rfl Wk.heap.size A cc acc ⟨(f1, f2), (t1, t2), wr_, rm, cl, sg⟩ rfl HOP.out.1 wv.heap.size rfl (heap_alloc_last _ _) (by omega) (by have := HP2.out.2.2.2.2.2.2.2.1.size; rw [World.size_alloc]; omega) ?_; intro A' c' Wr hown' hg'; have H5 := Lib.hid (And.intro hown' hg'); clear hown' hg'))
              have hnP : NodeAt (wv.alloc (.cells #[.int .i64 f1, .int .i64 f2, .int .i64 t1, .int .i64 t2, .int .i64 wr_, .int .i64 rm, .int .i64 cl, .int .i64 sg] 114)) bE (va, vb) := HP2.out.2.2.2.2.2.1.of_heap (HOP.out.2.block _ (heap_lt HP2.out.2.2.2.2.2.1))
              have hnR : NodeAt Wr bE (va, vb) := hnP.of_heap (H5.out.2.block _ (heap_lt hnP) (own_node HOP.out.1 hnP))
              have hbR : Below Wk.heap.size Wk Wr := below_own HP2.out.2.2.2.2.2.2.1 HP2.out.2.2.2.2.2.2.2.1 HOP.out.2 H5.out.2
              have r0 := hnR.c0
              have r1 := hnR.c1
              obtain ⟨Ws, hWs⟩ : ∃ Ws, Ws = Wr.alloc (.cells #[.int .i64 va, .int .i64 vb] 92) := ⟨_, rfl⟩
              have hbs : Below Wr.heap.size Wr Ws := by rw [hWs]; exact (Below.refl _ _).alloc (Nat.le_refl _) _
              have hnS : NodeAt Ws Wr.heap.size (va, vb) := by rw [hWs]; exact heap_alloc_last _ _
              have hbS := hbR.trans (hbs.mono hbR.size)
              obtain ⟨c9s, hbfs, _, _⟩ := HALL.out Ws hbS
              have hl2 := (hbfs.look HP2.out.2.2.2.2.1).1
              rw [HNX.out.2.2.2.2, Option.getD_some] at hl2
              dsimp only [nodeV, lkV, lkC] at hl2
              have m0 := hnS.c0
              have m1 := hnS.c1
              have fr0 := hnS.free 0
              have fr1 := hnS.free 1
              dsimp only at r0 r1 m0 m1
              have HF := Lib.hid (And.intro (hnS.set (f1, f2)) (And.intro hbs (And.intro hbR hbS)))
              clear hbs hnS hbS hbfs hbR hnP hnR c9 k0 k1 s0_ s1_ hl1 q1 hln
              go_upto_region 24 with fail
              rw [← hWs]
              clear hWs r0 r1
              go_wp2_with fail
              go_roundg k
              case measure => omega
              case rel =>
                obtain ⟨hs5, hbs, hbR, hbS⟩ := HF.out
                refine ⟨Wr.heap.size, n + 1, A', c', rfl, rfl, Lib.hid ⟨(f1, f2), acc ++ [⟨(f1, f2), (t1, t2), wr_, rm, cl, sg⟩], by rw [List.length_append, HP2.out.1]; rfl, ?_, HNX.out.2.1, ?_, HNX.out.2.2.2.1, hs5, ?_, ?_, ?_⟩⟩
                · rw [HP2.out.2.1, HNX.out.1, List.append_assoc]; rfl
                · have h1 := HNX.out.2.2.1
                  have h2 := HP2.out.2.2.2.1
                  omega
                · have hlt : Value.ownBlock (.slice A' (n + 1) c') ≠ some Wr.heap.size := fun e => absurd (own_lt H5.out.1 e) (Nat.lt_irrefl _)
                  exact own_setOther (own_setOther (pw_own_below H5.out.1 hbs) hlt _) hlt _
                · exact below_setB (below_setB hbS (by have := hbR.size; exact this) _) (by have := hbR.size; exact this) _
                · have := HP2.out.2.2.2.2.2.2.2.2; omega
        · obtain ⟨k1, k2⟩ := k
          obtain ⟨Wk, hWk⟩ : ∃ Wk, Wk = W'.alloc (.cells #[.int .i64 k1, .int .i64 k2] 92) := ⟨_, rfl⟩
          have hbk : Below W'.heap.size W' Wk := by rw [hWk]; exact (Below.refl _ _).alloc (Nat.le_refl _) _
          have hRk := hR'.below hbk
          have hbfk : BefAt Wk Mb F.bef := MapAt.of_heap (MapAt.of_heap hbf (hg'.block Mb (MapAt.lt hbf) (fun e => a.2.2.2.2.1 (by cases e; rfl)))) (hbk.block Mb (by have := MapAt.lt hbf; omega))
          have hlk := (hbfk.look HOK.out.2).2
          rw [HD.out] at hlk
          have n6' : NodeAt Wk b6 (d1, d2) := (n6.of_heap (hg'.block _ (heap_lt n6) (fun e => a.2.2.1 (by cases e; rfl)))).of_heap (hbk.block _ (by have := heap_lt n6; omega))
          have c9' : Wk.cell? ⟨b9, 0, none⟩ = some (.map (some Mb)) := (hbk.cell (by have := cell_size c9; simp only at this ⊢; omega)).trans (hg'.cell c9 (fun e => a.2.2.2.1 (by cases e; rfl)))
          obtain ⟨xx, hxx⟩ : ∃ xx, xx = x0 := ⟨_, rfl⟩
          rw [← hxx] at hlk
          obtain ⟨Wl, hWl⟩ : ∃ Wl, Wl = Wk.alloc (.cells (lkC xx).toArray 114) := ⟨_, rfl⟩
          have hbl : Below Wk.heap.size Wk Wl := by rw [hWl]; exact (Below.refl _ _).alloc (Nat.le_refl _) _
          have hHm : HoleL [r] W2.heap.size W2 Wl := by
            have h1 : HoleL [r] W2.heap.size W2 W' := hH.trans (HoleL.of_grown (bs := [r]) hg' (by simp) hH.size) (Nat.le_refl _)
            have h2 := h1.trans (HoleL.of_below hbk (Nat.le_refl _)) h1.size
            exact h2.trans (HoleL.of_below hbl (Nat.le_refl _)) h2.size
          have HM := Lib.hid (And.intro (hRk.below hbl) (And.intro (left_shrinks es0 seen e he) (And.intro hHm hn)))
          have n6c0 := n6'.c0
          have n6c1 := n6'.c1
          clear hxx
          obtain ⟨⟨xa, xb⟩, ⟨xc, xd⟩, xe, xf, xg, xh⟩ := xx
          dsimp only at n6c0 n6c1
          dsimp only [nodeV, lkV, lkC, Option.getD_some, Option.isSome_some] at hlk hnx hen hWl
          clear hR nb n6 n5 hbf hH hn a c9 hR' hg' hs' hbk hRk hbfk n6' hbl hHm he hk
          go_upto_region 18 with fail
          rw [← hWk]
          clear hWk hnx hen
          go_upto_region 19 with fail
          rw [← hWl]
          clear hWl hlk n6c0 n6c1 c9'
          go_wp2_with fail
          go_roundg (leftOf es0 (seen.push e.born)).size
          case measure => have h1 := HM.out.2.1; have h2 := HM.out.2.2.2; omega
          case rel => exact Lib.hid ⟨_, _, HM.out.1, rfl, HM.out.2.2.1⟩
end Go.Proofs.YtcbhnhoicecnnaaDoor.Hand

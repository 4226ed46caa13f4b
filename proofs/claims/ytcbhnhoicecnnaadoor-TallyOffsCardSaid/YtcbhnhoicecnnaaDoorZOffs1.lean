/- The row and the tied card of TallyOffs: its walk, over every argument, the variables as they are laid. -/
import Derived.Test.YtcbhnhoicecnnaaDoorZC7
import Derived.Test.YtcbhnhoicecnnaaDoorCards
import Derived.Test.YtcbhnhoicecnnaaDoorRows
import Derived.Test.YtcbhnhoicecnnaaDoorTie
import Derived.SevenTiedAt
set_option linter.unusedVariables false
set_option linter.unusedSimpArgs false
namespace Go.Proofs.YtcbhnhoicecnnaaDoor.Hand
set_option linter.unusedVariables false
set_option linter.unusedSimpArgs false
open Go.RowKit Go.Shelf Go.Maps Go.Proofs.YtcbhnhoicecnnaaDoorW.PrintWords Go.Proofs.YtcbhnhoicecnnaaDoorW.PrintLast Go.Proofs.YtcbhnhoicecnnaaDoorW.PrintMore Go.Proofs.YtcbhnhoicecnnaaDoor.PrK
section
variable {W W' : World} {b : Nat} {s : ShM}
end
set_option maxHeartbeats 4000000 in
set_option maxRecDepth 100000 in
theorem open_bad (s : ShM) (w : World) (h : ShR w s) (er : Int) (her : er = csE s) (hne : ¬ er = 0) :
    Calls Tryd.prog 50 #[.agg #[.slice s.A0 s.l0.length s.c0, .slice s.A1 s.l1.length s.c1, .int .i64 s.a2, .int .i64 s.a3, .slice s.A4 s.l4.length s.c4]] w fun e w' => e = .returned (.tuple #[.pointer none, .int .i64 er]) ∧ Below w.heap.size w w' := by
  obtain ⟨W, hW⟩ : ∃ W, W = w.alloc (.cells #[.slice s.A0 s.l0.length s.c0, .slice s.A1 s.l1.length s.c1, .int .i64 s.a2, .int .i64 s.a3, .slice s.A4 s.l4.length s.c4] 26) := ⟨_, rfl⟩
  have hb : Below w.heap.size w W := by rw [hW]; exact (Below.refl _ _).alloc (Nat.le_refl _) _
  have hX : BoxS W w.heap.size s := by rw [hW]; exact box_new w s
  have hc := check_any s W (h.below hb)
  rw [← her] at hc
  have HC := Lib.hid hc
  have HB := Lib.hid hb
  have gn : (er != 0) = true := by simpa using hne
  have x0 := hX.c0
  have x1 := hX.c1
  have x2 := hX.c2
  have x3 := hX.c3
  have x4 := hX.c4
  clear h hb hX hc her hne
  go_enter Tryd.func50, Tryd.ntmps50
  go_upto_region 1 with fail
  rw [← hW]
  clear hW
  go_wp2_with (go_at_call 20; refine HC.out.mono ?_; rintro e w1 ⟨rfl, h1⟩; have H1 := Lib.hid h1; clear h1)
  refine bodyPost_ret (results_tmp2 rfl _ _ _) rfl ?_
  exact ⟨rfl, HB.out.trans (H1.out.mono HB.out.size)⟩
end Go.Proofs.YtcbhnhoicecnnaaDoor.Hand
namespace Go.Proofs.YtcbhnhoicecnnaaDoor.Hand
set_option linter.unusedVariables false
set_option linter.unusedSimpArgs false
open Go.RowKit Go.Shelf Go.Maps Go.Proofs.YtcbhnhoicecnnaaDoorW.PrintWords Go.Proofs.YtcbhnhoicecnnaaDoorW.PrintLast Go.Proofs.YtcbhnhoicecnnaaDoorW.PrintMore Go.Proofs.YtcbhnhoicecnnaaDoor.PrK
set_option maxHeartbeats 4000000 in
set_option maxRecDepth 100000 in
theorem off_bad (s : ShM) (w : World) (h : ShR w s) (er : Int) (her : er = csE s) (hne : ¬ er = 0) :
    Calls Tryd.prog 25 #[.agg #[.slice s.A0 s.l0.length s.c0, .slice s.A1 s.l1.length s.c1, .int .i64 s.a2, .int .i64 s.a3, .slice s.A4 s.l4.length s.c4]] w fun e w' => e = .returned (.tuple #[.int .i64 0, .int .i64 er]) ∧ Below w.heap.size w w' := by
  obtain ⟨W, hW⟩ : ∃ W, W = w.alloc (.cells #[.slice s.A0 s.l0.length s.c0, .slice s.A1 s.l1.length s.c1, .int .i64 s.a2, .int .i64 s.a3, .slice s.A4 s.l4.length s.c4] 26) := ⟨_, rfl⟩
  have hb : Below w.heap.size w W := by rw [hW]; exact (Below.refl _ _).alloc (Nat.le_refl _) _
  have hX : BoxS W w.heap.size s := by rw [hW]; exact box_new w s
  have HW := Lib.hid (And.intro hb hX)
  have HO := Lib.hid (open_bad s W (h.below hb) er her hne)
  have gn : (er != 0) = true := by simpa using hne
  clear h her hne
  have x0 := hX.c0
  have x1 := hX.c1
  have x2 := hX.c2
  have x3 := hX.c3
  have x4 := hX.c4
  clear hb hX
  go_enter Tryd.func25, Tryd.ntmps25
  go_upto_region 1 with fail
  rw [← hW]
  clear hW
  go_wp2_with (go_at_call 50; refine HO.out.mono ?_; rintro e w1 ⟨rfl, h1⟩; have H1 := Lib.hid h1; clear h1)
  refine bodyPost_ret (results_tmp2 rfl _ _ _) rfl ?_
  exact ⟨rfl, HW.out.1.trans (H1.out.mono HW.out.1.size)⟩
set_option maxHeartbeats 4000000 in
set_option maxRecDepth 100000 in
theorem table_bad (s : ShM) (w : World) (h : ShR w s) (er : Int) (her : er = csE s) (hne : ¬ er = 0) :
    Calls Tryd.prog 27 #[.agg #[.slice s.A0 s.l0.length s.c0, .slice s.A1 s.l1.length s.c1, .int .i64 s.a2, .int .i64 s.a3, .slice s.A4 s.l4.length s.c4]] w fun e w' => e = .returned (.tuple #[.slice none 0 0, .int .i64 er]) ∧ Below w.heap.size w w' := by
  obtain ⟨W, hW⟩ : ∃ W, W = w.alloc (.cells #[.slice s.A0 s.l0.length s.c0, .slice s.A1 s.l1.length s.c1, .int .i64 s.a2, .int .i64 s.a3, .slice s.A4 s.l4.length s.c4] 26) := ⟨_, rfl⟩
  have hb : Below w.heap.size w W := by rw [hW]; exact (Below.refl _ _).alloc (Nat.le_refl _) _
  have hX : BoxS W w.heap.size s := by rw [hW]; exact box_new w s
  have HW := Lib.hid (And.intro hb hX)
  have HO := Lib.hid (open_bad s W (h.below hb) er her hne)
  have gn : (er != 0) = true := by simpa using hne
  clear h her hne
  have x0 := hX.c0
  have x1 := hX.c1
  have x2 := hX.c2
  have x3 := hX.c3
  have x4 := hX.c4
  clear hb hX
  go_enter Tryd.func27, Tryd.ntmps27
  go_upto_region 1 with fail
  rw [← hW]
  clear hW
  go_wp2_with (go_at_call 50; refine HO.out.mono ?_; rintro e w1 ⟨rfl, h1⟩; have H1 := Lib.hid h1; clear h1)
  refine bodyPost_ret (results_tmp2 rfl _ _ _) rfl ?_
  exact ⟨rfl, HW.out.1.trans (H1.out.mono HW.out.1.size)⟩
set_option maxHeartbeats 4000000 in
set_option maxRecDepth 100000 in
theorem weights_bad (s : ShM) (w : World) (h : ShR w s) (er : Int) (her : er = csE s) (hne : ¬ er = 0) :
    Calls Tryd.prog 28 #[.agg #[.slice s.A0 s.l0.length s.c0, .slice s.A1 s.l1.length s.c1, .int .i64 s.a2, .int .i64 s.a3, .slice s.A4 s.l4.length s.c4]] w fun e w' => e = .returned (.tuple #[.slice none 0 0, .int .i64 er]) ∧ Below w.heap.size w w' := by
  obtain ⟨W, hW⟩ : ∃ W, W = w.alloc (.cells #[.slice s.A0 s.l0.length s.c0, .slice s.A1 s.l1.length s.c1, .int .i64 s.a2, .int .i64 s.a3, .slice s.A4 s.l4.length s.c4] 26) := ⟨_, rfl⟩
  have hb : Below w.heap.size w W := by rw [hW]; exact (Below.refl _ _).alloc (Nat.le_refl _) _
  have hX : BoxS W w.heap.size s := by rw [hW]; exact box_new w s
  have HW := Lib.hid (And.intro hb hX)
  have HO := Lib.hid (open_bad s W (h.below hb) er her hne)
  have gn : (er != 0) = true := by simpa using hne
  clear h her hne
  have x0 := hX.c0
  have x1 := hX.c1
  have x2 := hX.c2
  have x3 := hX.c3
  have x4 := hX.c4
  clear hb hX
  go_enter Tryd.func28, Tryd.ntmps28
  go_upto_region 1 with fail
  rw [← hW]
  clear hW
  go_wp2_with (go_at_call 50; refine HO.out.mono ?_; rintro e w1 ⟨rfl, h1⟩; have H1 := Lib.hid h1; clear h1)
  refine bodyPost_ret (results_tmp2 rfl _ _ _) rfl ?_
  exact ⟨rfl, HW.out.1.trans (H1.out.mono HW.out.1.size)⟩
end Go.Proofs.YtcbhnhoicecnnaaDoor.Hand
namespace Go.Proofs.YtcbhnhoicecnnaaDoor.Hand
set_option linter.unusedVariables false
set_option linter.unusedSimpArgs false
open Go.Proofs.YtcbhnhoicecnnaaDoor.PrK
def numW : List Int → Nat
  | [] => 0
  | w :: l => (w + 1).toNat + 3 * numW l
theorem in3_of {l : List Int} (h : InW3 l) : In3 l := fun x hx => by
  obtain ⟨i, hi, rfl⟩ := List.mem_iff_getElem.1 hx
  have := h i hi
  unfold tat at this
  rw [List.getD_eq_getElem?_getD, List.getElem?_eq_getElem hi, Option.getD_some] at this
  exact this
theorem numW_lt : ∀ l : List Int, In3 l → numW l < 3 ^ l.length
  | [], _ => by simp [numW]
  | x :: l, h => by
    obtain ⟨hx, hl⟩ := In3.cons.1 h
    have := numW_lt l hl
    rw [numW, List.length_cons, Nat.pow_succ]
    omega
theorem numW_inj : ∀ a b : List Int, In3 a → In3 b → a.length = b.length → numW a = numW b → a = b
  | [], [], _, _, _, _ => rfl
  | [], _ :: _, _, _, h, _ => by cases h
  | _ :: _, [], _, _, h, _ => by cases h
  | x :: a, y :: b, ha, hb, hl, hn => by
    obtain ⟨hx, ha⟩ := In3.cons.1 ha
    obtain ⟨hy, hb⟩ := In3.cons.1 hb
    rw [numW, numW] at hn
    have h1 := numW_inj a b ha hb (by simpa using hl) (by omega)
    subst h1
    have : x = y := by omega
    rw [this]
def back1 (i : Nat) (l : List Int) : List Int := List.replicate i (-1) ++ l.drop i
theorem back1_length {i : Nat} {l : List Int} (h : i ≤ l.length) : (back1 i l).length = l.length := by simp [back1]; omega
theorem back1_zero (l : List Int) : back1 0 l = l := by simp [back1]
theorem back1_at {i : Nat} {l : List Int} (h : i ≤ l.length) (k : Nat) : tat (back1 i l) k = if k < i then -1 else tat l k := by
  unfold tat back1
  rw [List.getD_eq_getElem?_getD, List.getD_eq_getElem?_getD]
  by_cases hk : k < i
  · rw [if_pos hk, List.getElem?_append_left (by simpa using hk)]
    simp [hk]
  · rw [if_neg hk, List.getElem?_append_right (by simp; omega)]
    simp only [List.length_replicate, List.getElem?_drop]
    rw [show i + (k - i) = k by omega]
theorem back1_succ {i : Nat} {l : List Int} (h : i < l.length) : back1 (i + 1) l = (back1 i l).set i (-1) := by
  apply List.ext_getElem
  · rw [List.length_set, back1_length (by omega), back1_length (by omega)]
  intro k h1 h2
  rw [back1_length (by omega)] at h1
  have e1 := back1_at (i := i + 1) (l := l) (by omega) k
  have e2 := back1_at (i := i) (l := l) (by omega) k
  unfold tat at e1 e2
  rw [List.getD_eq_getElem?_getD, List.getElem?_eq_getElem (by rw [back1_length (by omega)]; exact h1), Option.getD_some] at e1 e2
  rw [List.getElem_set]
  by_cases hk : i = k
  · subst hk
    rw [if_pos rfl, e1, if_pos (by omega)]
  · rw [if_neg hk, e1, e2]
    by_cases g : k < i
    · rw [if_pos g, if_pos (by omega)]
    · rw [if_neg g, if_neg (by omega)]
theorem num_next : ∀ (i : Nat) (l : List Int), In3 l → i < l.length → (∀ k, k < i → tat l k = 1) → tat l i ≠ 1 → In3 ((back1 i l).set i (tat l i + 1)) ∧ numW ((back1 i l).set i (tat l i + 1)) = numW l + 1
  | 0, [], _, h, _, _ => by simp at h
  | i + 1, [], _, h, _, _ => by simp at h
  | 0, x :: l, hl, _, _, hx => by
    obtain ⟨h1, h2⟩ := In3.cons.1 hl
    have e : tat (x :: l) 0 = x := rfl
    rw [e] at hx ⊢
    rw [back1_zero, List.set_cons_zero]
    refine ⟨In3.cons.2 ⟨by omega, h2⟩, ?_⟩
    rw [numW, numW]; omega
  | i + 1, x :: l, hl, hi, ho, hx => by
    obtain ⟨h1, h2⟩ := In3.cons.1 hl
    have e0 : x = 1 := ho 0 (by omega)
    have et : ∀ k, tat (x :: l) (k + 1) = tat l k := fun k => rfl
    rw [et] at hx ⊢
    obtain ⟨j1, j2⟩ := num_next i l h2 (by simpa using hi) (fun k hk => ho (k + 1) (by omega)) hx
    have eb : back1 (i + 1) (x :: l) = (-1) :: back1 i l := by simp [back1, List.replicate_succ]
    rw [eb, List.set_cons_succ]
    refine ⟨In3.cons.2 ⟨by omega, j1⟩, ?_⟩
    rw [numW, j2, numW, e0]; simp; omega
theorem num_all : ∀ l : List Int, (∀ k, k < l.length → tat l k = 1) → numW l + 1 = 3 ^ l.length
  | [], _ => rfl
  | x :: l, h => by
    have e0 : x = 1 := h 0 (by simp)
    have := num_all l fun k hk => h (k + 1) (by simpa using hk)
    rw [numW, List.length_cons, Nat.pow_succ, ← this, e0]
    simp; omega
theorem num_least (n : Nat) : numW (List.replicate n (-1)) = 0 := by
  induction n with
  | zero => rfl
  | succ n ih => rw [List.replicate_succ, numW, ih]; rfl
theorem wsW_ok {s : ShM} {ws : List Int} (hl : ws.length = s.l0.length + s.l1.length + 1) (h : InW3 ws) : (wsW s.l0.length s.l1.length ws).Ok s.sh :=
  ⟨fun i hi => h i (by rw [ShM.len0] at hi; omega), fun i hi => h _ (by rw [ShM.len1] at hi; omega), h _ (by omega)⟩
theorem bound_le_off {s : ShM} (hS : s.Ok) {ws : List Int} (hl : ws.length = s.l0.length + s.l1.length + 1) (h : InW3 ws) : boundS s.sh (wsW s.l0.length s.l1.length ws) ≤ offS s.sh := le_off hS (wsW_ok hl h)
structure Tried (s : ShM) (ws : List Int) (best : Int) : Prop where
  len : ws.length = s.l0.length + s.l1.length + 1
  in3 : In3 ws
  le : best ≤ offS s.sh
  ge : 0 ≤ best
  all : ∀ v : List Int, v.length = ws.length → In3 v → numW v < numW ws → boundS s.sh (wsW s.l0.length s.l1.length v) ≤ best
theorem tried_start (s : ShM) : Tried s (List.replicate (s.l0.length + s.l1.length + 1) (-1)) 0 :=
  ⟨by simp, fun x hx => by rw [List.mem_replicate] at hx; omega, off_nonneg _, Int.le_refl _, fun v _ _ h => by rw [num_least] at h; omega⟩
theorem Tried.next {s : ShM} (hS : s.Ok) {ws : List Int} {best b2 : Int} (h : Tried s ws best) (hb : b2 = max best (boundS s.sh (wsW s.l0.length s.l1.length ws))) {i : Nat} (hi : i < ws.length) (ho : ∀ k, k < i → tat ws k = 1) (hx : tat ws i ≠ 1) :
    Tried s ((back1 i ws).set i (tat ws i + 1)) b2 ∧ numW ((back1 i ws).set i (tat ws i + 1)) = numW ws + 1 := by
  obtain ⟨h1, h2⟩ := num_next i ws h.in3 hi ho hx
  have hbo := bound_le_off hS h.len (inW3_of h.in3)
  have hle := h.le
  have hge := h.ge
  refine ⟨⟨by rw [List.length_set, back1_length (by omega)]; exact h.len, h1, by omega, by omega, fun v hv hin hlt => ?_⟩, h2⟩
  rw [h2] at hlt
  rw [List.length_set, back1_length (by omega)] at hv
  by_cases e : numW v = numW ws
  · rw [numW_inj v ws hin h.in3 hv e]; omega
  · have := h.all v hv hin (by omega); omega
theorem Tried.last {s : ShM} (hS : s.Ok) {ws : List Int} {best b2 : Int} (h : Tried s ws best) (hb : b2 = max best (boundS s.sh (wsW s.l0.length s.l1.length ws))) (ho : ∀ k, k < ws.length → tat ws k = 1) : b2 = offS s.sh := by
  have hbo := bound_le_off hS h.len (inW3_of h.in3)
  have hle := h.le
  have hn := num_all ws ho
  have hv := numW_lt (bestL s) (in3_of (bestL_in hS))
  have hl : (bestL s).length = ws.length := (bestL_length s).trans h.len.symm
  have hbb := bestL_bound hS
  rw [hl] at hv
  by_cases e : numW (bestL s) = numW ws
  · have := numW_inj (bestL s) ws (in3_of (bestL_in hS)) h.in3 hl e
    rw [this] at hbb; omega
  · have := h.all (bestL s) hl (in3_of (bestL_in hS)) (by omega)
    omega
end Go.Proofs.YtcbhnhoicecnnaaDoor.Hand
namespace Go.Proofs.YtcbhnhoicecnnaaDoor.Hand
set_option linter.unusedVariables false
set_option linter.unusedSimpArgs false
open Go.RowKit Go.Shelf Go.Maps Go.Proofs.YtcbhnhoicecnnaaDoorW.PrintWords Go.Proofs.YtcbhnhoicecnnaaDoorW.PrintLast Go.Proofs.YtcbhnhoicecnnaaDoorW.PrintMore Go.Proofs.YtcbhnhoicecnnaaDoor.PrK
theorem run_make_ints (w : World) (n : Nat) (hn : n ≤ 1000) : (Instr.makeSlice 35 (.int .i64 (n : Int)) (.int .i64 (n : Int))).run Tryd.prog w = .ok (.slice (some ⟨w.heap.size, 0, none⟩) n n) (w.alloc (.cells (nums .i64 (List.replicate n 0)).toArray 3)) := by
  obtain ⟨i0, hi, hz0, hz1, hz2⟩ := info_parts infoInt
  have h := run_make (P := Tryd.prog) w 35 3 i0 (.int .i64 0) Tryd.underlying35 hi hz0 .i64 .i64 n n (by omega) (Int.le_refl _) (by rw [hz2]; omega) (by omega)
  rw [hz1, Int.toNat_natCast, show (Value.int .i64 0).cells = #[.int .i64 0] from rfl, made_zeros] at h
  exact h
def RowJ (W : World) (R : Nat) (xs : List Int) : Prop := W.heap[R]? = some (.cells (nums .i64 xs).toArray 3 (0, 0))
section
variable {W W' : World} {R : Nat} {xs : List Int}
theorem RowJ.cell (h : RowJ W R xs) {k : Nat} (hk : k < xs.length) : W.cell? ⟨R, k, none⟩ = some (.int .i64 (tat xs k)) := by
  rw [cell_of_row W _ _ _ _ _ h]
  simp [nums, tat, hk, List.getD_eq_getElem?_getD]
theorem RowJ.free (h : RowJ W R xs) (k : Nat) : W.frozen? ⟨R, k, none⟩ = false := frozen_of_row W _ k _ _ h
theorem RowJ.set (h : RowJ W R xs) (k : Nat) (v : Int) : RowJ (W.setCell ⟨R, k, none⟩ (.int .i64 v)) R (xs.set k v) := by
  have := heap_setCell_same W R k _ _ (.int .i64 v) h
  unfold RowJ
  rw [this]
  congr 2
  simp [nums, List.map_set]
theorem RowJ.below (h : RowJ W R xs) (hb : Below W.heap.size W W') : RowJ W' R xs := (hb.block _ (heap_lt h)).trans h
theorem RowJ.reads (h : RowJ W R xs) (hl : xs.length ≤ 1000) : Kd.C (Kd.int .i64) W (some ⟨R, 0, none⟩) xs.length xs :=
  Kd.C_of_reads (d := (0 : Int)) (h1 := fun _ => rfl) ⟨rfl, by omega, fun _ => ⟨_, rfl, fun j hj => by
    rw [add_plain, cell_of_row W _ _ _ _ _ h]
    simp [nums, hj, List.getD_eq_getElem?_getD]⟩⟩
end
set_option maxHeartbeats 8000000 in
set_option maxRecDepth 100000 in
theorem offOf_any (s : ShM) (w : World) (h : ShR w s) (hS : s.Ok) (n : Int) (hn : n = offS s.sh) :
    Calls Tryd.prog 60 #[.agg #[.slice s.A0 s.l0.length s.c0, .slice s.A1 s.l1.length s.c1, .int .i64 s.a2, .int .i64 s.a3, .slice s.A4 s.l4.length s.c4]] w fun e w' => e = .returned (.int .i64 n) ∧ Below w.heap.size w w' := by
  obtain ⟨W, hW⟩ : ∃ W, W = w.alloc (.cells #[.slice s.A0 s.l0.length s.c0, .slice s.A1 s.l1.length s.c1, .int .i64 s.a2, .int .i64 s.a3, .slice s.A4 s.l4.length s.c4] 26) := ⟨_, rfl⟩
  have hb : Below w.heap.size w W := by rw [hW]; exact (Below.refl _ _).alloc (Nat.le_refl _) _
  obtain ⟨b, hbe⟩ : ∃ b, b = w.heap.size := ⟨_, rfl⟩
  have hX : BoxS W b s := by rw [hW, hbe]; exact box_new w s
  have n5 : (s.l0.length : Int) ≤ 5 := by have := hS.n5; have := s.len0; unfold Sh.n at this; omega
  have m5 : (s.l1.length : Int) ≤ 5 := by have := hS.m5; have := s.len1; unfold Sh.m at this; omega
  have ww1 : IntKind.i64.wrap ((s.l0.length : Int) + (s.l1.length : Int)) = (s.l0.length : Int) + (s.l1.length : Int) := IntWalk.i64_in _ (by omega)
  obtain ⟨N, hN⟩ : ∃ N, N = s.l0.length + s.l1.length + 1 := ⟨_, rfl⟩
  have ww2 : IntKind.i64.wrap ((s.l0.length : Int) + (s.l1.length : Int) + 1) = (N : Int) := by rw [IntWalk.i64_in _ (by omega)]; omega
  have N11 : (N : Int) ≤ 11 := by omega
  have N0 : (0 : Int) ≤ (N : Int) := by omega
  have hmk := run_make_ints W N (by omega)
  obtain ⟨w2, hw2⟩ : ∃ w2, w2 = W.alloc (.cells (nums .i64 (List.replicate N 0)).toArray 3) := ⟨_, rfl⟩
  obtain ⟨R, hR⟩ : ∃ R, R = W.heap.size := ⟨_, rfl⟩
  have hrow : RowJ w2 R (List.replicate N 0) := by rw [hw2, hR]; exact heap_alloc_last _ _
  have hb2 : Below W.heap.size W w2 := by rw [hw2]; exact (Below.refl W.heap.size W).alloc (Nat.le_refl _) _
  have HS := Lib.hid (And.intro hS (And.intro h (And.intro hn hN)))
  have HR := Lib.hid (And.intro hrow (And.intro (hb.trans (hb2.mono hb.size)) (And.intro (by rw [hR]; exact hb.size : w.heap.size ≤ R) (And.intro (hX.below hb2) (by rw [hR]; exact heap_lt hX : b < R)))))
  have x0 := hX.c0
  have x1 := hX.c1
  clear h hS hn hb hX hN hrow hb2
  go_enter Tryd.func60, Tryd.ntmps60
  go_upto_region 1 with fail
  rw [← hW, ← hbe]
  clear hW hbe
  go_upto_region 3 with fail
  rw [← hw2, ← hR]
  clear hw2 hR x0 x1 hmk ww1 ww2
  go_wp2_with fail
  go_loopw [5] (fun i wr => ∃ j : Nat, j ≤ N ∧ i = .int .i64 j ∧ Hid (RowJ wr R (back1 j (List.replicate N 0)) ∧ HoleL [R] w2.heap.size w2 wr)) (fun i _ => 60 - (intOf i).toNat)
  case atStart => exact ⟨0, Nat.zero_le _, rfl, Lib.hid ⟨by rw [back1_zero]; exact HR.out.1, HoleL.refl _ _ _⟩⟩
  case round =>
    obtain ⟨j, hj, rfl, HJ⟩ := hrel
    by_cases hlt : j < N
    · have hlti : (j : Int) < (N : Int) := by omega
      have j0 : (0 : Int) ≤ (j : Int) := by omega
      have hlen : (back1 j (List.replicate N (0 : Int))).length = N := by rw [back1_length (by simp; omega)]; simp
      have t1 := HJ.out.1.cell (k := j) (by rw [hlen]; exact hlt)
      have f1 := HJ.out.1.free j
      have hst := HJ.out.1.set j (-1)
      rw [← back1_succ (by simpa using hlt)] at hst
      have HN := Lib.hid (And.intro hst (HJ.out.2.set (p := ⟨R, j, none⟩) (.inl (by simp)) (.int .i64 (-1))))
      clear hlen hst
      go_wp2_with fail
      go_roundw
      case rel => exact ⟨j + 1, by omega, by go_num, Lib.hid HN.out⟩
      case measure => simp [intOf]; omega
    · obtain rfl : j = N := by omega
      have hnlt : ¬ ((j : Int) < (j : Int)) := by omega
      have e1 : back1 j (List.replicate j (0 : Int)) = List.replicate j (-1) := by simp [back1]
      have hst := HJ.out.1
      rw [e1] at hst
      have HJ2 := Lib.hid (And.intro hst HJ.out.2)
      clear hst e1
      go_wp2_with fail
      clear hnlt
      go_loopg [6] (3 ^ j) (fun g v6 wr => ∃ best : Int, v6 = .int .i64 best ∧ Hid (∃ ws, Tried s ws best ∧ RowJ wr R ws ∧ numW ws + g = 3 ^ j) ∧ Hid (HoleL [R] w2.heap.size w2 wr))
      case atStart => exact ⟨0, rfl, Lib.hid ⟨_, by rw [HS.out.2.2.2]; exact tried_start s, HJ2.out.1, by rw [num_least]; omega⟩, Lib.hid HJ2.out.2⟩
      case round =>
        obtain ⟨best, rfl, HT, HH⟩ := hrel
        obtain ⟨ws, ht, hrow, hgn⟩ := HT.out
        have hwl : ws.length = j := by rw [ht.len, HS.out.2.2.2]
        have hRb := HR.out.2.2.2.2
        have hX : BoxS wr b s := (HH.out.block b (heap_lt HR.out.2.2.2.1) (by simp; omega)).trans HR.out.2.2.2.1
        have hw : Below w.heap.size w wr := HR.out.2.1.trans (HH.out.below HR.out.2.1.size (by have := HR.out.2.2.1; simp; omega))
        have hs := HS.out.2.1.below hw
        obtain ⟨bd, hbd⟩ : ∃ bd, bd = boundS s.sh (wsW s.l0.length s.l1.length ws) := ⟨_, rfl⟩
        have hws : ∀ k, -1 ≤ tat ws k ∧ tat ws k ≤ 1 := fun k => by
          by_cases hk : k < ws.length
          · exact inW3_of ht.in3 k hk
          · unfold tat; rw [List.getD_eq_getElem?_getD, List.getElem?_eq_none (by omega)]; simp
        have hcall := peaveyref11_BoundOf.calls 200 s.A0 s.c0 s.l0 s.A1 s.c1 s.l1 s.a2 s.a3 s.A4 s.c4 s.l4 (some ⟨R, 0, none⟩) ws.length ws bd wr hs.r0 hs.h0 hs.r1 hs.h1 hs.r4 hs.h4 (hrow.reads (by omega)) (Nat.le_refl _) (by rw [hbd]; exact boundOf_is HS.out.1 hws ht.len (by omega))
        rw [hwl] at hcall
        have HC := Lib.hid hcall
        have x0 := hX.c0
        have x1 := hX.c1
        have x2 := hX.c2
        have x3 := hX.c3
        have x4 := hX.c4
        obtain ⟨b2, hb2⟩ : ∃ b2, b2 = if best < bd then bd else best := ⟨_, rfl⟩
        have HB2 : Hid (b2 = max best (boundS s.sh (wsW s.l0.length s.l1.length ws))) := Lib.hid (by rw [hb2, ← hbd]; split <;> omega)
        have HTW := Lib.hid (And.intro ht (And.intro hrow (And.intro hgn (And.intro hwl hw))))
        clear ht hrow hgn hRb hX hw hs hbd hws hcall hwl
        go_upto_region 9 with (go_at_call 58; refine HC.out.mono ?_; rintro e w5 ⟨rfl, h5⟩; have H5 := Lib.hid h5; clear h5)
        rw [← hb2]
        clear hb2 x0 x1 x2 x3 x4
        go_wp2_with fail
        go_loopw [7] (fun v7 wq => ∃ i : Nat, i ≤ j ∧ v7 = .int .i64 i ∧ Hid ((∀ k, k < i → tat ws k = 1) ∧ RowJ wq R (back1 i ws) ∧ HoleL [R] w2.heap.size w2 wq)) (fun v7 _ => 60 - (intOf v7).toNat)
        case atStart => exact ⟨0, Nat.zero_le _, rfl, Lib.hid ⟨fun k hk => absurd hk (Nat.not_lt_zero _), by rw [back1_zero]; exact HTW.out.2.1.below H5.out, HH.out.trans (HoleL.of_below H5.out (Nat.le_refl _)) HH.out.size⟩⟩
        case round =>
          obtain ⟨i, hi, rfl, HI⟩ := hrel
          by_cases hlt : i < j
          · have hlti : (i : Int) < (j : Int) := by omega
            have i0 : (0 : Int) ≤ (i : Int) := by omega
            have hlen : (back1 i ws).length = j := by rw [back1_length (by rw [HTW.out.2.2.2.1]; omega)]; exact HTW.out.2.2.2.1
            have t1 := HI.out.2.1.cell (k := i) (by rw [hlen]; exact hlt)
            rw [back1_at (by rw [HTW.out.2.2.2.1]; omega), if_neg (by omega)] at t1
            have f1 := HI.out.2.1.free i
            obtain ⟨x, hx⟩ : ∃ x, x = tat ws i := ⟨_, rfl⟩
            rw [← hx] at t1
            by_cases g1 : x = 1
            · subst g1
              have hst := HI.out.2.1.set i (-1)
              rw [← back1_succ (by rw [HTW.out.2.2.2.1]; exact hlt)] at hst
              have HN := Lib.hid (And.intro hst (And.intro hx (HI.out.2.2.set (p := ⟨R, i, none⟩) (.inl (by simp)) (.int .i64 (-1)))))
              clear hst hx hlen
              go_wp2_with fail
              go_roundw
              case rel =>
                refine ⟨i + 1, by omega, by go_num, Lib.hid ⟨fun k hk => ?_, HN.out.1, HN.out.2.2⟩⟩
                by_cases e : k = i
                · rw [e]; exact HN.out.2.1.symm
                · exact HI.out.1 k (by omega)
              case measure => simp [intOf]; omega
            · have gx : (x == 1) = false := beq_eq_false_iff_ne.2 g1
              have hxb : -1 ≤ x ∧ x ≤ 1 := by rw [hx]; exact inW3_of HTW.out.1.in3 i (by rw [HTW.out.2.2.2.1]; exact hlt)
              have wx : IntKind.i64.wrap (x + 1) = x + 1 := IntWalk.i64_in _ (by omega)
              have hij : ((i : Int) == (j : Int)) = false := beq_eq_false_iff_ne.2 (by omega)
              have hst := HI.out.2.1.set i (x + 1)
              have hnx := HTW.out.1.next HS.out.1 HB2.out (i := i) (by rw [HTW.out.2.2.2.1]; exact hlt) HI.out.1 (by rw [← hx]; exact g1)
              rw [← hx] at hnx
              have hp : numW ws < 3 ^ j := by have := numW_lt ws HTW.out.1.in3; rw [HTW.out.2.2.2.1] at this; exact this
              have HN := Lib.hid (And.intro hst (And.intro hnx (And.intro (HI.out.2.2.set (p := ⟨R, i, none⟩) (.inl (by simp)) (.int .i64 (x + 1))) hp)))
              clear hst hnx hp hx hlen g1 hxb
              go_wp2_with fail
              go_roundg (gk - 1)
              case measure => have h1 := HTW.out.2.2.1; have h2 := HN.out.2.2.2; omega
              case rel => exact ⟨b2, rfl, Lib.hid ⟨_, HN.out.2.1.1, HN.out.1, by rw [HN.out.2.1.2]; have h1 := HTW.out.2.2.1; have h2 := HN.out.2.2.2; omega⟩, Lib.hid HN.out.2.2.1⟩
          · obtain rfl : i = j := by omega
            have hnlt : ¬ ((i : Int) < (i : Int)) := by omega
            have hij : ((i : Int) == (i : Int)) = true := by simp
            have HL : Hid (b2 = n) := Lib.hid (by rw [HS.out.2.2.1]; exact HTW.out.1.last HS.out.1 HB2.out (fun k hk => HI.out.1 k (by rw [HTW.out.2.2.2.1] at hk; exact hk)))
            go_wp2_with fail
            refine bodyPost_ret (results_tmp (t := 2) rfl _ _ _) rfl ?_
            refine ⟨?_, HR.out.2.1.trans (HI.out.2.2.below HR.out.2.1.size (by have := HR.out.2.2.1; simp; omega))⟩
            rw [← HL.out]; rfl
end Go.Proofs.YtcbhnhoicecnnaaDoor.Hand
namespace Go.Proofs.YtcbhnhoicecnnaaDoor.Hand
set_option linter.unusedVariables false
set_option linter.unusedSimpArgs false
open Go.RowKit Go.Shelf Go.Maps Go.Proofs.YtcbhnhoicecnnaaDoorW.PrintWords Go.Proofs.YtcbhnhoicecnnaaDoorW.PrintLast Go.Proofs.YtcbhnhoicecnnaaDoorW.PrintMore Go.Proofs.YtcbhnhoicecnnaaDoor.PrK
set_option maxHeartbeats 4000000 in
set_option maxRecDepth 100000 in
theorem refOff_bad (s : ShM) (w : World) (h : ShR w s) (h4 : s.l4.length ≤ 60) (er : Int) (her : er = csE s) (hne : ¬ er = 0) :
    Calls Tryd.prog 26 #[.agg #[.slice s.A0 s.l0.length s.c0, .slice s.A1 s.l1.length s.c1, .int .i64 s.a2, .int .i64 s.a3, .slice s.A4 s.l4.length s.c4]] w fun e w' => e = .returned (.tuple #[.int .i64 0, .int .i64 er]) ∧ Below w.heap.size w w' := by
  obtain ⟨W, hW⟩ : ∃ W, W = w.alloc (.cells #[.slice s.A0 s.l0.length s.c0, .slice s.A1 s.l1.length s.c1, .int .i64 s.a2, .int .i64 s.a3, .slice s.A4 s.l4.length s.c4] 26) := ⟨_, rfl⟩
  have hb : Below w.heap.size w W := by rw [hW]; exact (Below.refl _ _).alloc (Nat.le_refl _) _
  obtain ⟨b, hbe⟩ : ∃ b, b = w.heap.size := ⟨_, rfl⟩
  have hX : BoxS W b s := by rw [hW, hbe]; exact box_new w s
  have HX := Lib.hid (And.intro hb hX)
  have HC : Hid (∀ V, Below w.heap.size w V → Calls Tryd.prog 21 #[.agg #[.slice s.A0 s.l0.length s.c0, .slice s.A1 s.l1.length s.c1, .int .i64 s.a2, .int .i64 s.a3, .slice s.A4 s.l4.length s.c4]] V fun e w' => e = .returned (.int .i64 er) ∧ Below V.heap.size V w') := Lib.hid fun V hV => by rw [her]; exact refCheck_any s V (h.below hV) h4
  have gn : (er != 0) = true := by simpa using hne
  clear hX hb h h4 her hne
  go_enter Tryd.func26, Tryd.ntmps26
  go_upto_region 1 with fail
  rw [← hW, ← hbe]
  clear hW hbe
  have hX := HX.out.2
  have x0 := hX.c0
  have x1 := hX.c1
  have x2 := hX.c2
  have x3 := hX.c3
  have x4 := hX.c4
  clear hX
  go_upto_region 2 with (go_at_call 21; refine (HC.out _ HX.out.1).mono ?_; rintro e v1 ⟨rfl, h1⟩; have Hv1 := Lib.hid h1; clear h1)
  clear x0 x1 x2 x3 x4
  have HB1 : Hid (Below w.heap.size w v1) := Lib.hid (HX.out.1.trans (Hv1.out.mono HX.out.1.size))
  have hX := HX.out.2.below Hv1.out
  have x0 := hX.c0
  have x1 := hX.c1
  have x2 := hX.c2
  have x3 := hX.c3
  have x4 := hX.c4
  clear hX
  go_wp2_with (go_at_call 21; refine (HC.out _ HB1.out).mono ?_; rintro e v2 ⟨rfl, h1⟩; have Hv2 := Lib.hid h1; clear h1)
  have HB2 : Hid (Below w.heap.size w v2) := Lib.hid (HB1.out.trans (Hv2.out.mono HB1.out.size))
  refine bodyPost_ret (results_tmp2 rfl _ _ _) rfl ?_
  exact ⟨rfl, HB2.out⟩
set_option maxHeartbeats 4000000 in
set_option maxRecDepth 100000 in
theorem refOff_ok (s : ShM) (w : World) (h : ShR w s) (hS : s.Ok) (nn : Int) (hnn : nn = offS s.sh) :
    Calls Tryd.prog 26 #[.agg #[.slice s.A0 s.l0.length s.c0, .slice s.A1 s.l1.length s.c1, .int .i64 s.a2, .int .i64 s.a3, .slice s.A4 s.l4.length s.c4]] w fun e w' => e = .returned (.tuple #[.int .i64 nn, .int .i64 0]) ∧ Below w.heap.size w w' := by
  obtain ⟨W, hW⟩ : ∃ W, W = w.alloc (.cells #[.slice s.A0 s.l0.length s.c0, .slice s.A1 s.l1.length s.c1, .int .i64 s.a2, .int .i64 s.a3, .slice s.A4 s.l4.length s.c4] 26) := ⟨_, rfl⟩
  have hb : Below w.heap.size w W := by rw [hW]; exact (Below.refl _ _).alloc (Nat.le_refl _) _
  obtain ⟨b, hbe⟩ : ∃ b, b = w.heap.size := ⟨_, rfl⟩
  have hX : BoxS W b s := by rw [hW, hbe]; exact box_new w s
  have HX := Lib.hid (And.intro hb hX)
  have HC : Hid (∀ V, Below w.heap.size w V → Calls Tryd.prog 21 #[.agg #[.slice s.A0 s.l0.length s.c0, .slice s.A1 s.l1.length s.c1, .int .i64 s.a2, .int .i64 s.a3, .slice s.A4 s.l4.length s.c4]] V fun e w' => e = .returned (.int .i64 0) ∧ Below V.heap.size V w') := Lib.hid fun V hV => by have := refCheck_any s V (h.below hV) (by have := ShM.l25 hS; omega); rw [(csE_ok s).2 hS] at this; exact this
  have HO : Hid (∀ V, Below w.heap.size w V → Calls Tryd.prog 60 #[.agg #[.slice s.A0 s.l0.length s.c0, .slice s.A1 s.l1.length s.c1, .int .i64 s.a2, .int .i64 s.a3, .slice s.A4 s.l4.length s.c4]] V fun e w' => e = .returned (.int .i64 nn) ∧ Below V.heap.size V w') := Lib.hid fun V hV => offOf_any s V (h.below hV) hS nn hnn
  clear hX hb h hS hnn
  go_enter Tryd.func26, Tryd.ntmps26
  go_upto_region 1 with fail
  rw [← hW, ← hbe]
  clear hW hbe
  have hX := HX.out.2
  have x0 := hX.c0
  have x1 := hX.c1
  have x2 := hX.c2
  have x3 := hX.c3
  have x4 := hX.c4
  clear hX
  go_upto_region 3 with (go_at_call 21; refine (HC.out _ HX.out.1).mono ?_; rintro e v1 ⟨rfl, h1⟩; have Hv1 := Lib.hid h1; clear h1)
  clear x0 x1 x2 x3 x4
  have HB1 : Hid (Below w.heap.size w v1) := Lib.hid (HX.out.1.trans (Hv1.out.mono HX.out.1.size))
  have hX := HX.out.2.below Hv1.out
  have x0 := hX.c0
  have x1 := hX.c1
  have x2 := hX.c2
  have x3 := hX.c3
  have x4 := hX.c4
  clear hX
  go_wp2_with (go_at_call 60; refine (HO.out _ HB1.out).mono ?_; rintro e v2 ⟨rfl, h1⟩; have Hv2 := Lib.hid h1; clear h1)
  have HB2 : Hid (Below w.heap.size w v2) := Lib.hid (HB1.out.trans (Hv2.out.mono HB1.out.size))
  refine bodyPost_ret (results_tmp2 rfl _ _ _) rfl ?_
  exact ⟨rfl, HB2.out⟩
end Go.Proofs.YtcbhnhoicecnnaaDoor.Hand
namespace Go.Proofs.YtcbhnhoicecnnaaDoor.PrK
open Go.RowKit Go.Proofs.YtcbhnhoicecnnaaDoorW.PrintWords Go.Proofs.YtcbhnhoicecnnaaDoorW.PrintLast Go.Proofs.YtcbhnhoicecnnaaDoorW.PrintMore Go.Proofs.YtcbhnhoicecnnaaDoor.Hand
attribute [local go_sem] max2_int min2_int max_two min_two max_three min_three max_four min_four
set_option linter.unusedVariables false
set_option linter.unusedSimpArgs false
def peaveylaw11_great.f (l0_0 : List (S24)) (l0_1 : List (S24)) (a0_2 : Int) (a0_3 : Int) (l0_4 : List (S24)) : Option (Bool) := if (l0_0.length : Int) > 10 then (some true) else (if (l0_1.length : Int) > 10 then (some true) else (some (decide ((l0_4.length : Int) > 60))))
set_option maxHeartbeats 8000000 in
set_option maxRecDepth 100000 in
theorem peaveylaw11_great.calls (A0_0 : Option Addr) (c0_0 : Nat) (l0_0 : List (S24)) (A0_1 : Option Addr) (c0_1 : Nat) (l0_1 : List (S24)) (a0_2 : Int) (a0_3 : Int) (A0_4 : Option Addr) (c0_4 : Nat) (l0_4 : List (S24)) (r : Bool) (w : World) (hr0_0 : Kd.C k24 w A0_0 l0_0.length l0_0) (hc0_0 : l0_0.length ≤ c0_0) (hr0_1 : Kd.C k24 w A0_1 l0_1.length l0_1) (hc0_1 : l0_1.length ≤ c0_1) (hr0_4 : Kd.C k24 w A0_4 l0_4.length l0_4) (hc0_4 : l0_4.length ≤ c0_4) (h : peaveylaw11_great.f l0_0 l0_1 a0_2 a0_3 l0_4 = some r) :
    Calls Tryd.prog 16 #[.agg #[.slice A0_0 l0_0.length c0_0, .slice A0_1 l0_1.length c0_1, .int .i64 a0_2, .int .i64 a0_3, .slice A0_4 l0_4.length c0_4]] w fun e w' => e = .returned (.bool r) ∧ Below w.heap.size w w' := by
  have hu26 := Tryd.underlying26
  have HR0_0 := Aside0.mk hr0_0
  have HC0_0 := Aside0.mk hc0_0
  clear hr0_0 hc0_0
  have HR0_1 := Aside0.mk hr0_1
  have HC0_1 := Aside0.mk hc0_1
  clear hr0_1 hc0_1
  have HR0_4 := Aside0.mk hr0_4
  have HC0_4 := Aside0.mk hc0_4
  clear hr0_4 hc0_4
  have HB := Aside0.mk (Below.refl w.heap.size w)
  have H : (if (l0_0.length : Int) > 10 then (some true) else (if (l0_1.length : Int) > 10 then (some true) else (some (decide ((l0_4.length : Int) > 60))))) = some r := h
  clear h
  by_cases c2 : (l0_0.length : Int) > 10
  · rw [if_pos c2] at H
    have c2b0 : decide (10 < (l0_0.length : Int)) = true := decide_eq_true c2
    have c2b1 : decide (10 < l0_0.length) = true := decide_eq_true (by omega)
    clear c2
    obtain rfl := Option.some.inj H
    go_enter Tryd.func16, Tryd.ntmps16
    go_wp2_with (first | ((with_reducible refine gate_dst (N := 1) rfl ?_); (try (refine gate_guard (by rfl) ?_; dsimp only)); refine box_event ?hg (N := 1) ?hd (cs := #[.slice A0_0 l0_0.length c0_0, .slice A0_1 l0_1.length c0_1, .int .i64 a0_2, .int .i64 a0_3, .slice A0_4 l0_4.length c0_4]) (t := 26) ?hr ?_; (case hd => rfl); (case hg => rfl); (case hr => first | (go_simp; done) | (go_simp; rfl)); intro gb228 hg w3 hbox hb; have n0_ := Aside0.mk (below_step (by repeat (first | (with_reducible first | exact HB.out | apply below_alloc | apply pw_below_drewN | apply below_drew1) | exact HB.out)) hb); have n1_ := Aside0.mk (hbox); have n2_ := Aside0.mk ((by rw [hg]; exact (below_size (by repeat (first | (with_reducible first | exact HB.out | apply below_alloc | apply pw_below_drewN | apply below_drew1) | exact HB.out))) : w.heap.size ≤ gb228)); have n3_ := Aside0.mk ((by rw [hg]; exact (below_size (by repeat (first | (with_reducible first | exact HB.out | apply below_alloc | apply pw_below_drewN | apply below_drew1) | exact HB.out))) : w.heap.size ≤ gb228)); clear HB; have HB := n0_; have BK228 := n1_; have GW228 := n2_; have GE228 := n3_; clear n0_ n1_ n2_ n3_; clear hb hbox hg; have hcz4_0 : w3.cell? ⟨gb228, 0, none⟩ = some (.slice A0_0 l0_0.length c0_0) := (blk_cell BK228.out 0).trans rfl; have hcz4_1 : w3.cell? ⟨gb228, 1, none⟩ = some (.slice A0_1 l0_1.length c0_1) := (blk_cell BK228.out 1).trans rfl; have hcz4_2 : w3.cell? ⟨gb228, 2, none⟩ = some (.int .i64 a0_2) := (blk_cell BK228.out 2).trans rfl; have hcz4_3 : w3.cell? ⟨gb228, 3, none⟩ = some (.int .i64 a0_3) := (blk_cell BK228.out 3).trans rfl; have hcz4_4 : w3.cell? ⟨gb228, 4, none⟩ = some (.slice A0_4 l0_4.length c0_4) := (blk_cell BK228.out 4).trans rfl; have hfz4_0 := blk_frozen BK228.out 0; have hfz4_1 := blk_frozen BK228.out 1; have hfz4_2 := blk_frozen BK228.out 2; have hfz4_3 := blk_frozen BK228.out 3; have hfz4_4 := blk_frozen BK228.out 4))
    go_ret
    exact ⟨by first | rfl | (simp [errW_none, errW_some] <;> rfl) | (simp [*, errW_none, errW_some] <;> rfl), by repeat (first | (with_reducible first | exact HB.out | apply below_alloc | apply pw_below_drewN | apply below_drew1 | refine below_set ?_ GE228.out) | exact HB.out)⟩
  · rw [if_neg c2] at H
    have c2b0 : decide (10 < (l0_0.length : Int)) = false := decide_eq_false c2
    have c2b1 : decide (10 < l0_0.length) = false := decide_eq_false (by omega)
    clear c2
    by_cases c5 : (l0_1.length : Int) > 10
    · rw [if_pos c5] at H
      have c5b0 : decide (10 < (l0_1.length : Int)) = true := decide_eq_true c5
      have c5b1 : decide (10 < l0_1.length) = true := decide_eq_true (by omega)
      clear c5
      obtain rfl := Option.some.inj H
      go_enter Tryd.func16, Tryd.ntmps16
      go_wp2_with (first | ((with_reducible refine gate_dst (N := 1) rfl ?_); (try (refine gate_guard (by rfl) ?_; dsimp only)); refine box_event ?hg (N := 1) ?hd (cs := #[.slice A0_0 l0_0.length c0_0, .slice A0_1 l0_1.length c0_1, .int .i64 a0_2, .int .i64 a0_3, .slice A0_4 l0_4.length c0_4]) (t := 26) ?hr ?_; (case hd => rfl); (case hg => rfl); (case hr => first | (go_simp; done) | (go_simp; rfl)); intro gb228 hg w6 hbox hb; have n0_ := Aside0.mk (below_step (by repeat (first | (with_reducible first | exact HB.out | apply below_alloc | apply pw_below_drewN | apply below_drew1) | exact HB.out)) hb); have n1_ := Aside0.mk (hbox); have n2_ := Aside0.mk ((by rw [hg]; exact (below_size (by repeat (first | (with_reducible first | exact HB.out | apply below_alloc | apply pw_below_drewN | apply below_drew1) | exact HB.out))) : w.heap.size ≤ gb228)); have n3_ := Aside0.mk ((by rw [hg]; exact (below_size (by repeat (first | (with_reducible first | exact HB.out | apply below_alloc | apply pw_below_drewN | apply below_drew1) | exact HB.out))) : w.heap.size ≤ gb228)); clear HB; have HB := n0_; have BK228 := n1_; have GW228 := n2_; have GE228 := n3_; clear n0_ n1_ n2_ n3_; clear hb hbox hg; have hcz7_0 : w6.cell? ⟨gb228, 0, none⟩ = some (.slice A0_0 l0_0.length c0_0) := (blk_cell BK228.out 0).trans rfl; have hcz7_1 : w6.cell? ⟨gb228, 1, none⟩ = some (.slice A0_1 l0_1.length c0_1) := (blk_cell BK228.out 1).trans rfl; have hcz7_2 : w6.cell? ⟨gb228, 2, none⟩ = some (.int .i64 a0_2) := (blk_cell BK228.out 2).trans rfl; have hcz7_3 : w6.cell? ⟨gb228, 3, none⟩ = some (.int .i64 a0_3) := (blk_cell BK228.out 3).trans rfl; have hcz7_4 : w6.cell? ⟨gb228, 4, none⟩ = some (.slice A0_4 l0_4.length c0_4) := (blk_cell BK228.out 4).trans rfl; have hfz7_0 := blk_frozen BK228.out 0; have hfz7_1 := blk_frozen BK228.out 1; have hfz7_2 := blk_frozen BK228.out 2; have hfz7_3 := blk_frozen BK228.out 3; have hfz7_4 := blk_frozen BK228.out 4))
      go_ret
      exact ⟨by first | rfl | (simp [errW_none, errW_some] <;> rfl) | (simp [*, errW_none, errW_some] <;> rfl), by repeat (first | (with_reducible first | exact HB.out | apply below_alloc | apply pw_below_drewN | apply below_drew1 | refine below_set ?_ GE228.out) | exact HB.out)⟩
    · rw [if_neg c5] at H
      have c5b0 : decide (10 < (l0_1.length : Int)) = false := decide_eq_false c5
      have c5b1 : decide (10 < l0_1.length) = false := decide_eq_false (by omega)
      clear c5
      obtain rfl := Option.some.inj H
      go_enter Tryd.func16, Tryd.ntmps16
      go_wp2_with (first | ((with_reducible refine gate_dst (N := 1) rfl ?_); (try (refine gate_guard (by rfl) ?_; dsimp only)); refine box_event ?hg (N := 1) ?hd (cs := #[.slice A0_0 l0_0.length c0_0, .slice A0_1 l0_1.length c0_1, .int .i64 a0_2, .int .i64 a0_3, .slice A0_4 l0_4.length c0_4]) (t := 26) ?hr ?_; (case hd => rfl); (case hg => rfl); (case hr => first | (go_simp; done) | (go_simp; rfl)); intro gb228 hg w8 hbox hb; have n0_ := Aside0.mk (below_step (by repeat (first | (with_reducible first | exact HB.out | apply below_alloc | apply pw_below_drewN | apply below_drew1) | exact HB.out)) hb); have n1_ := Aside0.mk (hbox); have n2_ := Aside0.mk ((by rw [hg]; exact (below_size (by repeat (first | (with_reducible first | exact HB.out | apply below_alloc | apply pw_below_drewN | apply below_drew1) | exact HB.out))) : w.heap.size ≤ gb228)); have n3_ := Aside0.mk ((by rw [hg]; exact (below_size (by repeat (first | (with_reducible first | exact HB.out | apply below_alloc | apply pw_below_drewN | apply below_drew1) | exact HB.out))) : w.heap.size ≤ gb228)); clear HB; have HB := n0_; have BK228 := n1_; have GW228 := n2_; have GE228 := n3_; clear n0_ n1_ n2_ n3_; clear hb hbox hg; have hcz9_0 : w8.cell? ⟨gb228, 0, none⟩ = some (.slice A0_0 l0_0.length c0_0) := (blk_cell BK228.out 0).trans rfl; have hcz9_1 : w8.cell? ⟨gb228, 1, none⟩ = some (.slice A0_1 l0_1.length c0_1) := (blk_cell BK228.out 1).trans rfl; have hcz9_2 : w8.cell? ⟨gb228, 2, none⟩ = some (.int .i64 a0_2) := (blk_cell BK228.out 2).trans rfl; have hcz9_3 : w8.cell? ⟨gb228, 3, none⟩ = some (.int .i64 a0_3) := (blk_cell BK228.out 3).trans rfl; have hcz9_4 : w8.cell? ⟨gb228, 4, none⟩ = some (.slice A0_4 l0_4.length c0_4) := (blk_cell BK228.out 4).trans rfl; have hfz9_0 := blk_frozen BK228.out 0; have hfz9_1 := blk_frozen BK228.out 1; have hfz9_2 := blk_frozen BK228.out 2; have hfz9_3 := blk_frozen BK228.out 3; have hfz9_4 := blk_frozen BK228.out 4))
      go_ret
      exact ⟨by first | rfl | (simp [errW_none, errW_some] <;> rfl) | (simp [*, errW_none, errW_some] <;> rfl), by repeat (first | (with_reducible first | exact HB.out | apply below_alloc | apply pw_below_drewN | apply below_drew1 | refine below_set ?_ GE228.out) | exact HB.out)⟩
mutual
def peaveylaw11_wide.j0 : Nat → Bool → List (S24) → List (S24) → Int → Int → List (S24) → Option (Bool)
  | 0, _, _, _, _, _, _ => none
  | k + 1, x24, x230000, x230001, x230002, x230003, x230004 => if x24 = true then (some true) else (peaveylaw11_wide.l0 k 0 x230000 x230001 x230002 x230003 x230004)
def peaveylaw11_wide.l0 : Nat → Int → List (S24) → List (S24) → Int → Int → List (S24) → Option (Bool)
  | 0, _, _, _, _, _, _ => none
  | k + 1, x3, x230000, x230001, x230002, x230003, x230004 => if x3 < (x230004.length : Int) then (if 0 ≤ x3 then (if (wrap64 (((rd_T24 x230004 x3).f1) - ((rd_T24 x230004 x3).f0))) > 40 then (some true) else (peaveylaw11_wide.l0 k (wrap64 (x3 + 1)) x230000 x230001 x230002 x230003 x230004)) else (none)) else (some false)
end
def peaveylaw11_wide.f (k : Nat) (l0_0 : List (S24)) (l0_1 : List (S24)) (a0_2 : Int) (a0_3 : Int) (l0_4 : List (S24)) : Option (Bool) := (peaveyref11_CheckSheet.f k l0_0 l0_1 a0_2 a0_3 l0_4).bind fun t230 => (if t230 = 0 then (if (wrap64 ((l0_0.length : Int) + (l0_1.length : Int))) > 6 then (peaveylaw11_wide.j0 k true l0_0 l0_1 a0_2 a0_3 l0_4) else (peaveylaw11_wide.j0 k (decide ((wrap64 (a0_3 - a0_2)) > 40)) l0_0 l0_1 a0_2 a0_3 l0_4)) else (some false))
theorem peaveylaw11_wide.mono_l : ∀ k, (∀ y0 y1 y2 y3 y4 y5, LeO (peaveylaw11_wide.j0 k y0 y1 y2 y3 y4 y5) (peaveylaw11_wide.j0 (k + 1) y0 y1 y2 y3 y4 y5)) ∧ (∀ y0 y1 y2 y3 y4 y5, LeO (peaveylaw11_wide.l0 k y0 y1 y2 y3 y4 y5) (peaveylaw11_wide.l0 (k + 1) y0 y1 y2 y3 y4 y5))
  | 0 => ⟨fun _ _ _ _ _ _ r h => by simp [peaveylaw11_wide.j0] at h, fun _ _ _ _ _ _ r h => by simp [peaveylaw11_wide.l0] at h⟩
  | k + 1 => by
    obtain ⟨ih0, ih1⟩ := peaveylaw11_wide.mono_l k
    refine ⟨?_, ?_⟩
    · intro y0 y1 y2 y3 y4 y5
      unfold peaveylaw11_wide.j0
      repeat' first
      | (with_reducible exact ih0 _ _ _ _ _ _)
      | (with_reducible exact ih1 _ _ _ _ _ _)
      | (with_reducible exact peaveyref11_CheckSheet.mono _ _ _ _ _ _)
      | (with_reducible exact LeO.refl _)
      | (with_reducible exact LeO.none _)
      | (with_reducible refine LeO.ite ?_ ?_)
      | (with_reducible refine LeO.bind ?_ (fun _ => ?_))
      | exact ih0 _ _ _ _ _ _
      | exact ih1 _ _ _ _ _ _
      | exact peaveyref11_CheckSheet.mono _ _ _ _ _ _
      | exact LeO.none _
      | refine LeO.ite ?_ ?_
      | refine LeO.bind ?_ (fun _ => ?_)
    · intro y0 y1 y2 y3 y4 y5
      unfold peaveylaw11_wide.l0
      repeat' first
      | (with_reducible exact ih0 _ _ _ _ _ _)
      | (with_reducible exact ih1 _ _ _ _ _ _)
      | (with_reducible exact peaveyref11_CheckSheet.mono _ _ _ _ _ _)
      | (with_reducible exact LeO.refl _)
      | (with_reducible exact LeO.none _)
      | (with_reducible refine LeO.ite ?_ ?_)
      | (with_reducible refine LeO.bind ?_ (fun _ => ?_))
      | exact ih0 _ _ _ _ _ _
      | exact ih1 _ _ _ _ _ _
      | exact peaveyref11_CheckSheet.mono _ _ _ _ _ _
      | exact LeO.none _
      | refine LeO.ite ?_ ?_
      | refine LeO.bind ?_ (fun _ => ?_)
theorem peaveylaw11_wide.mono : ∀ a0 a1 a2 a3 a4 k, LeO (peaveylaw11_wide.f k a0 a1 a2 a3 a4) (peaveylaw11_wide.f (k + 1) a0 a1 a2 a3 a4) := by
  intro a0 a1 a2 a3 a4 k
  obtain ⟨ih0, ih1⟩ := peaveylaw11_wide.mono_l k
  unfold peaveylaw11_wide.f
  repeat' first
      | (with_reducible exact ih0 _ _ _ _ _ _)
      | (with_reducible exact ih1 _ _ _ _ _ _)
      | (with_reducible exact peaveyref11_CheckSheet.mono _ _ _ _ _ _)
      | (with_reducible exact LeO.refl _)
      | (with_reducible exact LeO.none _)
      | (with_reducible refine LeO.ite ?_ ?_)
      | (with_reducible refine LeO.bind ?_ (fun _ => ?_))
      | exact ih0 _ _ _ _ _ _
      | exact ih1 _ _ _ _ _ _
      | exact peaveyref11_CheckSheet.mono _ _ _ _ _ _
      | exact LeO.none _
      | refine LeO.ite ?_ ?_
      | refine LeO.bind ?_ (fun _ => ?_)
set_option maxHeartbeats 8000000 in
set_option maxRecDepth 100000 in
theorem peaveylaw11_wide.calls (k : Nat) (A0_0 : Option Addr) (c0_0 : Nat) (l0_0 : List (S24)) (A0_1 : Option Addr) (c0_1 : Nat) (l0_1 : List (S24)) (a0_2 : Int) (a0_3 : Int) (A0_4 : Option Addr) (c0_4 : Nat) (l0_4 : List (S24)) (r : Bool) (w : World) (hr0_0 : Kd.C k24 w A0_0 l0_0.length l0_0) (hc0_0 : l0_0.length ≤ c0_0) (hr0_1 : Kd.C k24 w A0_1 l0_1.length l0_1) (hc0_1 : l0_1.length ≤ c0_1) (hr0_4 : Kd.C k24 w A0_4 l0_4.length l0_4) (hc0_4 : l0_4.length ≤ c0_4) (h : peaveylaw11_wide.f k l0_0 l0_1 a0_2 a0_3 l0_4 = some r) :
    Calls Tryd.prog 24 #[.agg #[.slice A0_0 l0_0.length c0_0, .slice A0_1 l0_1.length c0_1, .int .i64 a0_2, .int .i64 a0_3, .slice A0_4 l0_4.length c0_4]] w fun e w' => e = .returned (.bool r) ∧ Below w.heap.size w w' := by
  have hu26 := Tryd.underlying26
  have HR0_0 := Aside0.mk hr0_0
  have HC0_0 := Aside0.mk hc0_0
  clear hr0_0 hc0_0
  have HR0_1 := Aside0.mk hr0_1
  have HC0_1 := Aside0.mk hc0_1
  clear hr0_1 hc0_1
  have HR0_4 := Aside0.mk hr0_4
  have HC0_4 := Aside0.mk hc0_4
  clear hr0_4 hc0_4
  have HB := Aside0.mk (Below.refl w.heap.size w)
  have H : ((peaveyref11_CheckSheet.f k l0_0 l0_1 a0_2 a0_3 l0_4).bind fun t230 => (if t230 = 0 then (if (wrap64 ((l0_0.length : Int) + (l0_1.length : Int))) > 6 then (peaveylaw11_wide.j0 k true l0_0 l0_1 a0_2 a0_3 l0_4) else (peaveylaw11_wide.j0 k (decide ((wrap64 (a0_3 - a0_2)) > 40)) l0_0 l0_1 a0_2 a0_3 l0_4)) else (some false))) = some r := h
  clear h
  replace H := Option.bind_eq_some_iff.mp H
  obtain ⟨t230, A20, H⟩ := H
  replace H : (if t230 = 0 then (if (wrap64 ((l0_0.length : Int) + (l0_1.length : Int))) > 6 then (peaveylaw11_wide.j0 k true l0_0 l0_1 a0_2 a0_3 l0_4) else (peaveylaw11_wide.j0 k (decide ((wrap64 (a0_3 - a0_2)) > 40)) l0_0 l0_1 a0_2 a0_3 l0_4)) else (some false)) = some r := H
  have A2 := Aside0.mk A20
  clear A20
  by_cases c3 : t230 = 0
  · rw [if_pos c3] at H
    have c3b0 : (t230 == 0) = true := beq_iff_eq.mpr c3
    have c3b1 : (t230 != 0) = false := bne_eq_false_iff_eq.mpr c3
    clear c3
    have HC4 := Aside0.mk H
    clear H
    go_enter Tryd.func24, Tryd.ntmps24
    go_upto_region 3 with (first | ((with_reducible refine gate_dst (N := 1) rfl ?_); refine box_event ?hg (N := 1) ?hd (cs := #[.slice A0_0 l0_0.length c0_0, .slice A0_1 l0_1.length c0_1, .int .i64 a0_2, .int .i64 a0_3, .slice A0_4 l0_4.length c0_4]) (t := 26) ?hr ?_; (case hd => rfl); (case hg => rfl); (case hr => first | (go_simp; done) | (go_simp; rfl)); intro gb229 hg w5 hbox hb; have n0_ := Aside0.mk (below_step (by repeat (first | (with_reducible first | exact HB.out | apply below_alloc | apply pw_below_drewN | apply below_drew1) | exact HB.out)) hb); have n1_ := Aside0.mk (hbox); have n2_ := Aside0.mk ((by rw [hg]; exact (below_size (by repeat (first | (with_reducible first | exact HB.out | apply below_alloc | apply pw_below_drewN | apply below_drew1) | exact HB.out))) : w.heap.size ≤ gb229)); have n3_ := Aside0.mk ((by rw [hg]; exact (below_size (by repeat (first | (with_reducible first | exact HB.out | apply below_alloc | apply pw_below_drewN | apply below_drew1) | exact HB.out))) : w.heap.size ≤ gb229)); clear HB; have HB := n0_; have BK229 := n1_; have GW229 := n2_; have GE229 := n3_; clear n0_ n1_ n2_ n3_; clear hb hbox hg; have hcz6_0 : w5.cell? ⟨gb229, 0, none⟩ = some (.slice A0_0 l0_0.length c0_0) := (blk_cell BK229.out 0).trans rfl; have hcz6_1 : w5.cell? ⟨gb229, 1, none⟩ = some (.slice A0_1 l0_1.length c0_1) := (blk_cell BK229.out 1).trans rfl; have hcz6_2 : w5.cell? ⟨gb229, 2, none⟩ = some (.int .i64 a0_2) := (blk_cell BK229.out 2).trans rfl; have hcz6_3 : w5.cell? ⟨gb229, 3, none⟩ = some (.int .i64 a0_3) := (blk_cell BK229.out 3).trans rfl; have hcz6_4 : w5.cell? ⟨gb229, 4, none⟩ = some (.slice A0_4 l0_4.length c0_4) := (blk_cell BK229.out 4).trans rfl; have hfz6_0 := blk_frozen BK229.out 0; have hfz6_1 := blk_frozen BK229.out 1; have hfz6_2 := blk_frozen BK229.out 2; have hfz6_3 := blk_frozen BK229.out 3; have hfz6_4 := blk_frozen BK229.out 4) | (go_at_call 21; (with_reducible refine (peaveyref11_CheckSheet.calls k _ _ l0_0 _ _ l0_1 a0_2 a0_3 _ _ l0_4 t230 _ ?side1 ?side2 ?side3 ?side4 ?side5 ?side6 A2.out).mono ?_); (case side1 => repeat (first | exact (Kd.C_below HR0_0.out HB.out) | (with_reducible refine Kd.C_alloc ?_ _) | (with_reducible refine Kd.C_drewN ?_ _) | (with_reducible refine Kd.C_drew ?_))); (case side2 => exact HC0_0.out); (case side3 => repeat (first | exact (Kd.C_below HR0_1.out HB.out) | (with_reducible refine Kd.C_alloc ?_ _) | (with_reducible refine Kd.C_drewN ?_ _) | (with_reducible refine Kd.C_drew ?_))); (case side4 => exact HC0_1.out); (case side5 => repeat (first | exact (Kd.C_below HR0_4.out HB.out) | (with_reducible refine Kd.C_alloc ?_ _) | (with_reducible refine Kd.C_drewN ?_ _) | (with_reducible refine Kd.C_drew ?_))); (case side6 => exact HC0_4.out); rintro e w7 ⟨rfl, hb⟩; have n0_ := Aside0.mk (blk_below (g := gb229) (o := .cells #[.slice A0_0 l0_0.length c0_0, .slice A0_1 l0_1.length c0_1, .int .i64 a0_2, .int .i64 a0_3, .slice A0_4 l0_4.length c0_4] 26 (0, 0)) (by (with_reducible repeat (first | refine blk_drewN ?_ _ | refine blk_drew ?_ | refine blk_alloc ?_ _)); exact BK229.out) hb); have n1_ := Aside0.mk (below_step (by repeat (first | (with_reducible first | exact HB.out | apply below_alloc | apply pw_below_drewN | apply below_drew1 | refine below_set ?_ GE229.out) | exact HB.out)) hb); clear BK229; clear HB; have BK229 := n0_; have HB := n1_; clear n0_ n1_; (try clear hb); (try clear hb2); (try clear hk); (try clear hi)))
    repeat (go_quiet (first | ((with_reducible refine gate_dst (N := 1) rfl ?_); refine box_event ?hg (N := 1) ?hd (cs := #[.slice A0_0 l0_0.length c0_0, .slice A0_1 l0_1.length c0_1, .int .i64 a0_2, .int .i64 a0_3, .slice A0_4 l0_4.length c0_4]) (t := 26) ?hr ?_; (case hd => rfl); (case hg => rfl); (case hr => first | (go_simp; done) | (go_simp; rfl)); intro gb229 hg w5 hbox hb; have n0_ := Aside0.mk (below_step (by repeat (first | (with_reducible first | exact HB.out | apply below_alloc | apply pw_below_drewN | apply below_drew1) | exact HB.out)) hb); have n1_ := Aside0.mk (hbox); have n2_ := Aside0.mk ((by rw [hg]; exact (below_size (by repeat (first | (with_reducible first | exact HB.out | apply below_alloc | apply pw_below_drewN | apply below_drew1) | exact HB.out))) : w.heap.size ≤ gb229)); have n3_ := Aside0.mk ((by rw [hg]; exact (below_size (by repeat (first | (with_reducible first | exact HB.out | apply below_alloc | apply pw_below_drewN | apply below_drew1) | exact HB.out))) : w.heap.size ≤ gb229)); clear HB; have HB := n0_; have BK229 := n1_; have GW229 := n2_; have GE229 := n3_; clear n0_ n1_ n2_ n3_; clear hb hbox hg; have hcz6_0 : w5.cell? ⟨gb229, 0, none⟩ = some (.slice A0_0 l0_0.length c0_0) := (blk_cell BK229.out 0).trans rfl; have hcz6_1 : w5.cell? ⟨gb229, 1, none⟩ = some (.slice A0_1 l0_1.length c0_1) := (blk_cell BK229.out 1).trans rfl; have hcz6_2 : w5.cell? ⟨gb229, 2, none⟩ = some (.int .i64 a0_2) := (blk_cell BK229.out 2).trans rfl; have hcz6_3 : w5.cell? ⟨gb229, 3, none⟩ = some (.int .i64 a0_3) := (blk_cell BK229.out 3).trans rfl; have hcz6_4 : w5.cell? ⟨gb229, 4, none⟩ = some (.slice A0_4 l0_4.length c0_4) := (blk_cell BK229.out 4).trans rfl; have hfz6_0 := blk_frozen BK229.out 0; have hfz6_1 := blk_frozen BK229.out 1; have hfz6_2 := blk_frozen BK229.out 2; have hfz6_3 := blk_frozen BK229.out 3; have hfz6_4 := blk_frozen BK229.out 4) | (go_at_call 21; (with_reducible refine (peaveyref11_CheckSheet.calls k _ _ l0_0 _ _ l0_1 a0_2 a0_3 _ _ l0_4 t230 _ ?side1 ?side2 ?side3 ?side4 ?side5 ?side6 A2.out).mono ?_); (case side1 => repeat (first | exact (Kd.C_below HR0_0.out HB.out) | (with_reducible refine Kd.C_alloc ?_ _) | (with_reducible refine Kd.C_drewN ?_ _) | (with_reducible refine Kd.C_drew ?_))); (case side2 => exact HC0_0.out); (case side3 => repeat (first | exact (Kd.C_below HR0_1.out HB.out) | (with_reducible refine Kd.C_alloc ?_ _) | (with_reducible refine Kd.C_drewN ?_ _) | (with_reducible refine Kd.C_drew ?_))); (case side4 => exact HC0_1.out); (case side5 => repeat (first | exact (Kd.C_below HR0_4.out HB.out) | (with_reducible refine Kd.C_alloc ?_ _) | (with_reducible refine Kd.C_drewN ?_ _) | (with_reducible refine Kd.C_drew ?_))); (case side6 => exact HC0_4.out); rintro e w7 ⟨rfl, hb⟩; have n0_ := Aside0.mk (blk_below (g := gb229) (o := .cells #[.slice A0_0 l0_0.length c0_0, .slice A0_1 l0_1.length c0_1, .int .i64 a0_2, .int .i64 a0_3, .slice A0_4 l0_4.length c0_4] 26 (0, 0)) (by (with_reducible repeat (first | refine blk_drewN ?_ _ | refine blk_drew ?_ | refine blk_alloc ?_ _)); exact BK229.out) hb); have n1_ := Aside0.mk (below_step (by repeat (first | (with_reducible first | exact HB.out | apply below_alloc | apply pw_below_drewN | apply below_drew1 | refine below_set ?_ GE229.out) | exact HB.out)) hb); clear BK229; clear HB; have BK229 := n0_; have HB := n1_; clear n0_ n1_; (try clear hb); (try clear hb2); (try clear hk); (try clear hi))); go_upto_region 3 with (first | ((with_reducible refine gate_dst (N := 1) rfl ?_); refine box_event ?hg (N := 1) ?hd (cs := #[.slice A0_0 l0_0.length c0_0, .slice A0_1 l0_1.length c0_1, .int .i64 a0_2, .int .i64 a0_3, .slice A0_4 l0_4.length c0_4]) (t := 26) ?hr ?_; (case hd => rfl); (case hg => rfl); (case hr => first | (go_simp; done) | (go_simp; rfl)); intro gb229 hg w5 hbox hb; have n0_ := Aside0.mk (below_step (by repeat (first | (with_reducible first | exact HB.out | apply below_alloc | apply pw_below_drewN | apply below_drew1) | exact HB.out)) hb); have n1_ := Aside0.mk (hbox); have n2_ := Aside0.mk ((by rw [hg]; exact (below_size (by repeat (first | (with_reducible first | exact HB.out | apply below_alloc | apply pw_below_drewN | apply below_drew1) | exact HB.out))) : w.heap.size ≤ gb229)); have n3_ := Aside0.mk ((by rw [hg]; exact (below_size (by repeat (first | (with_reducible first | exact HB.out | apply below_alloc | apply pw_below_drewN | apply below_drew1) | exact HB.out))) : w.heap.size ≤ gb229)); clear HB; have HB := n0_; have BK229 := n1_; have GW229 := n2_; have GE229 := n3_; clear n0_ n1_ n2_ n3_; clear hb hbox hg; have hcz6_0 : w5.cell? ⟨gb229, 0, none⟩ = some (.slice A0_0 l0_0.length c0_0) := (blk_cell BK229.out 0).trans rfl; have hcz6_1 : w5.cell? ⟨gb229, 1, none⟩ = some (.slice A0_1 l0_1.length c0_1) := (blk_cell BK229.out 1).trans rfl; have hcz6_2 : w5.cell? ⟨gb229, 2, none⟩ = some (.int .i64 a0_2) := (blk_cell BK229.out 2).trans rfl; have hcz6_3 : w5.cell? ⟨gb229, 3, none⟩ = some (.int .i64 a0_3) := (blk_cell BK229.out 3).trans rfl; have hcz6_4 : w5.cell? ⟨gb229, 4, none⟩ = some (.slice A0_4 l0_4.length c0_4) := (blk_cell BK229.out 4).trans rfl; have hfz6_0 := blk_frozen BK229.out 0; have hfz6_1 := blk_frozen BK229.out 1; have hfz6_2 := blk_frozen BK229.out 2; have hfz6_3 := blk_frozen BK229.out 3; have hfz6_4 := blk_frozen BK229.out 4) | (go_at_call 21; (with_reducible refine (peaveyref11_CheckSheet.calls k _ _ l0_0 _ _ l0_1 a0_2 a0_3 _ _ l0_4 t230 _ ?side1 ?side2 ?side3 ?side4 ?side5 ?side6 A2.out).mono ?_); (case side1 => repeat (first | exact (Kd.C_below HR0_0.out HB.out) | (with_reducible refine Kd.C_alloc ?_ _) | (with_reducible refine Kd.C_drewN ?_ _) | (with_reducible refine Kd.C_drew ?_))); (case side2 => exact HC0_0.out); (case side3 => repeat (first | exact (Kd.C_below HR0_1.out HB.out) | (with_reducible refine Kd.C_alloc ?_ _) | (with_reducible refine Kd.C_drewN ?_ _) | (with_reducible refine Kd.C_drew ?_))); (case side4 => exact HC0_1.out); (case side5 => repeat (first | exact (Kd.C_below HR0_4.out HB.out) | (with_reducible refine Kd.C_alloc ?_ _) | (with_reducible refine Kd.C_drewN ?_ _) | (with_reducible refine Kd.C_drew ?_))); (case side6 => exact HC0_4.out); rintro e w7 ⟨rfl, hb⟩; have n0_ := Aside0.mk (blk_below (g := gb229) (o := .cells #[.slice A0_0 l0_0.length c0_0, .slice A0_1 l0_1.length c0_1, .int .i64 a0_2, .int .i64 a0_3, .slice A0_4 l0_4.length c0_4] 26 (0, 0)) (by (with_reducible repeat (first | refine blk_drewN ?_ _ | refine blk_drew ?_ | refine blk_alloc ?_ _)); exact BK229.out) hb); have n1_ := Aside0.mk (below_step (by repeat (first | (with_reducible first | exact HB.out | apply below_alloc | apply pw_below_drewN | apply below_drew1 | refine below_set ?_ GE229.out) | exact HB.out)) hb); clear BK229; clear HB; have BK229 := n0_; have HB := n1_; clear n0_ n1_; (try clear hb); (try clear hb2); (try clear hk); (try clear hi))))
    (try simp only [Act.put, List.setIfInBounds_toArray, List.set_cons_zero, List.set_cons_succ])
    go_cut [24] (fun v24 wc => ∃ (kq : Nat) (x24_3 : Bool), v24 = .bool x24_3 ∧ Aside0 (peaveylaw11_wide.j0 kq x24_3 l0_0 l0_1 a0_2 a0_3 l0_4 = some r) ∧ Aside0 (kq ≤ k) ∧ Aside0 (wc.heap[gb229]? = some (.cells #[(.slice A0_0 l0_0.length c0_0), (.slice A0_1 l0_1.length c0_1), .int .i64 a0_2, .int .i64 a0_3, (.slice A0_4 l0_4.length c0_4)] 26 (0, 0))) ∧ Aside0 (Below w.heap.size w wc))
    case first =>
      have H := HC4.out
      clear HC4
      by_cases c8 : (wrap64 ((l0_0.length : Int) + (l0_1.length : Int))) > 6
      · rw [if_pos c8] at H
        have c8b0 : decide (6 < (wrap64 ((l0_0.length : Int) + (l0_1.length : Int)))) = true := decide_eq_true c8
        clear c8
        (first | rw [c8b0] | (simp only [i64_w, i32_w]; rw [c8b0]) | skip)
        have H' := Aside0.mk H
        clear H
        have hcz9_0 : w7.cell? ⟨gb229, 0, none⟩ = some (.slice A0_0 l0_0.length c0_0) := (blk_cell BK229.out 0).trans rfl
        have hcz9_1 : w7.cell? ⟨gb229, 1, none⟩ = some (.slice A0_1 l0_1.length c0_1) := (blk_cell BK229.out 1).trans rfl
        have hcz9_2 : w7.cell? ⟨gb229, 2, none⟩ = some (.int .i64 a0_2) := (blk_cell BK229.out 2).trans rfl
        have hcz9_3 : w7.cell? ⟨gb229, 3, none⟩ = some (.int .i64 a0_3) := (blk_cell BK229.out 3).trans rfl
        have hcz9_4 : w7.cell? ⟨gb229, 4, none⟩ = some (.slice A0_4 l0_4.length c0_4) := (blk_cell BK229.out 4).trans rfl
        have hfz9_0 := blk_frozen BK229.out 0
        have hfz9_1 := blk_frozen BK229.out 1
        have hfz9_2 := blk_frozen BK229.out 2
        have hfz9_3 := blk_frozen BK229.out 3
        have hfz9_4 := blk_frozen BK229.out 4
        go_wp2
        repeat (go_quiet (fail); try go_wp2)
        go_meet
        case rel => exact ⟨_, (true), (by first | rfl | (simp; done) | (simp [*]; done)), H', ⟨by first | omega | exact Nat.le_refl _⟩, ⟨by (with_reducible repeat (first | refine blk_drewN ?_ _ | refine blk_drew ?_ | refine blk_alloc ?_ _)); exact BK229.out⟩, ⟨by repeat (first | (with_reducible first | exact HB.out | apply below_alloc | apply pw_below_drewN | apply below_drew1 | refine below_set ?_ GE229.out) | exact HB.out)⟩⟩
      · rw [if_neg c8] at H
        have c8b0 : decide (6 < (wrap64 ((l0_0.length : Int) + (l0_1.length : Int)))) = false := decide_eq_false c8
        clear c8
        (first | rw [c8b0] | (simp only [i64_w, i32_w]; rw [c8b0]) | skip)
        have H' := Aside0.mk H
        clear H
        have hcz10_0 : w7.cell? ⟨gb229, 0, none⟩ = some (.slice A0_0 l0_0.length c0_0) := (blk_cell BK229.out 0).trans rfl
        have hcz10_1 : w7.cell? ⟨gb229, 1, none⟩ = some (.slice A0_1 l0_1.length c0_1) := (blk_cell BK229.out 1).trans rfl
        have hcz10_2 : w7.cell? ⟨gb229, 2, none⟩ = some (.int .i64 a0_2) := (blk_cell BK229.out 2).trans rfl
        have hcz10_3 : w7.cell? ⟨gb229, 3, none⟩ = some (.int .i64 a0_3) := (blk_cell BK229.out 3).trans rfl
        have hcz10_4 : w7.cell? ⟨gb229, 4, none⟩ = some (.slice A0_4 l0_4.length c0_4) := (blk_cell BK229.out 4).trans rfl
        have hfz10_0 := blk_frozen BK229.out 0
        have hfz10_1 := blk_frozen BK229.out 1
        have hfz10_2 := blk_frozen BK229.out 2
        have hfz10_3 := blk_frozen BK229.out 3
        have hfz10_4 := blk_frozen BK229.out 4
        go_wp2
        repeat (go_quiet (fail); try go_wp2)
        go_meet
        case rel => exact ⟨_, (decide ((wrap64 (a0_3 - a0_2)) > 40)), (by first | rfl | (simp; done) | (simp [*]; done)), H', ⟨by first | omega | exact Nat.le_refl _⟩, ⟨by (with_reducible repeat (first | refine blk_drewN ?_ _ | refine blk_drew ?_ | refine blk_alloc ?_ _)); exact BK229.out⟩, ⟨by repeat (first | (with_reducible first | exact HB.out | apply below_alloc | apply pw_below_drewN | apply below_drew1 | refine below_set ?_ GE229.out) | exact HB.out)⟩⟩
    case rest =>
      clear HC4
      try clear c2
      try clear p2
      try clear c3
      try clear c3b0
      try clear c3b1
      try clear p6
      try clear c8
      try clear c8b0
      try clear hcz10_0
      try clear hcz10_1
      try clear hcz10_2
      try clear hcz10_3
      try clear hcz10_4
      try clear hcz6_0
      try clear hcz6_1
      try clear hcz6_2
      try clear hcz6_3
      try clear hcz6_4
      try clear hcz9_0
      try clear hcz9_1
      try clear hcz9_2
      try clear hcz9_3
      try clear hcz9_4
      try clear hfz10_0
      try clear hfz10_1
      try clear hfz10_2
      try clear hfz10_3
      try clear hfz10_4
      try clear hfz6_0
      try clear hfz6_1
      try clear hfz6_2
      try clear hfz6_3
      try clear hfz6_4
      try clear hfz9_0
      try clear hfz9_1
      try clear hfz9_2
      try clear hfz9_3
      try clear hfz9_4
      obtain ⟨kq, x24_3, rfl, HA, HJ3, BK229, HB⟩ := hcut
      cases kq with
      | zero => exact absurd HA.out (by simp [peaveylaw11_wide.j0])
      | succ kj3 =>
        have H := HA.out
        clear HA
        simp only [peaveylaw11_wide.j0] at H
        by_cases c11 : x24_3 = true
        · subst c11
          have H1 : (some true) = some r := by rw [if_pos rfl] at H; exact H
          clear H
          have H := H1
          clear H1
          obtain rfl := Option.some.inj H
          go_wp2
          repeat (go_quiet (fail); try go_wp2)
          go_ret
          exact ⟨by first | rfl | (simp [errW_none, errW_some] <;> rfl) | (simp [*, errW_none, errW_some] <;> rfl), by repeat (first | (with_reducible first | exact HB.out | apply below_alloc | apply pw_below_drewN | apply below_drew1 | refine below_set ?_ GE229.out) | exact HB.out)⟩
        · replace c11 := Bool.eq_false_iff.mpr c11
          subst c11
          have H1 : (peaveylaw11_wide.l0 kj3 0 l0_0 l0_1 a0_2 a0_3 l0_4) = some r := by rw [if_neg (show ¬ (false = true) by decide)] at H; exact H
          clear H
          have H := H1
          clear H1
          have H' := Aside0.mk H
          clear H
          go_wp2
          repeat (go_quiet (fail); try go_wp2)
          go_loopg [3] kj3 (fun kq v3 w' => ∃ (x3_2 : Int), v3 = .int .i64 x3_2 ∧ Aside0 (peaveylaw11_wide.l0 kq x3_2 l0_0 l0_1 a0_2 a0_3 l0_4 = some r) ∧ Aside0 (kq ≤ kj3) ∧ Aside0 (w'.heap[gb229]? = some (.cells #[(.slice A0_0 l0_0.length c0_0), (.slice A0_1 l0_1.length c0_1), .int .i64 a0_2, .int .i64 a0_3, (.slice A0_4 l0_4.length c0_4)] 26 (0, 0))) ∧ Aside0 (Below w.heap.size w w'))
          case atStart => exact ⟨(0), (by first | rfl | (simp; done) | (simp [*]; done)), H', ⟨Nat.le_refl _⟩, ⟨by (with_reducible repeat (first | refine blk_drewN ?_ _ | refine blk_drew ?_ | refine blk_alloc ?_ _)); exact BK229.out⟩, ⟨by repeat (first | (with_reducible first | exact HB.out | apply below_alloc | apply pw_below_drewN | apply below_drew1 | refine below_set ?_ GE229.out) | exact HB.out)⟩⟩
          case round =>
            clear H'
            try clear c1
            try clear c2
            try clear p2
            try clear c3
            try clear c3b0
            try clear c3b1
            try clear p6
            try clear c8
            try clear c8b0
            try clear c11
            try clear hcz10_0
            try clear hcz10_1
            try clear hcz10_2
            try clear hcz10_3
            try clear hcz10_4
            try clear hcz6_0
            try clear hcz6_1
            try clear hcz6_2
            try clear hcz6_3
            try clear hcz6_4
            try clear hcz9_0
            try clear hcz9_1
            try clear hcz9_2
            try clear hcz9_3
            try clear hcz9_4
            try clear hfz10_0
            try clear hfz10_1
            try clear hfz10_2
            try clear hfz10_3
            try clear hfz10_4
            try clear hfz6_0
            try clear hfz6_1
            try clear hfz6_2
            try clear hfz6_3
            try clear hfz6_4
            try clear hfz9_0
            try clear hfz9_1
            try clear hfz9_2
            try clear hfz9_3
            try clear hfz9_4
            try clear p2
            try clear p6
            obtain ⟨x3_2, rfl, HA, HK2, BK229, HB⟩ := hrel
            cases gk with
            | zero => exact absurd HA.out (by simp [peaveylaw11_wide.l0])
            | succ k2 =>
              have H := HA.out
              clear HA
              simp only [peaveylaw11_wide.l0] at H
              by_cases c12 : x3_2 < (l0_4.length : Int)
              · rw [if_pos c12] at H
                have c12b0 : decide (x3_2 < (l0_4.length : Int)) = true := decide_eq_true c12
                clear c12
                by_cases c13 : 0 ≤ x3_2
                · rw [if_pos c13] at H
                  have c13b0 : decide (0 ≤ x3_2) = true := decide_eq_true c13
                  clear c13
                  by_cases c14 : (wrap64 (((rd_T24 l0_4 x3_2).f1) - ((rd_T24 l0_4 x3_2).f0))) > 40
                  · rw [if_pos c14] at H
                    have c14b0 : decide (40 < (wrap64 (((rd_T24 l0_4 x3_2).f1) - ((rd_T24 l0_4 x3_2).f0)))) = true := decide_eq_true c14
                    clear c14
                    obtain rfl := Option.some.inj H
                    have hcz15_0 : wr.cell? ⟨gb229, 0, none⟩ = some (.slice A0_0 l0_0.length c0_0) := (blk_cell BK229.out 0).trans rfl
                    have hcz15_1 : wr.cell? ⟨gb229, 1, none⟩ = some (.slice A0_1 l0_1.length c0_1) := (blk_cell BK229.out 1).trans rfl
                    have hcz15_2 : wr.cell? ⟨gb229, 2, none⟩ = some (.int .i64 a0_2) := (blk_cell BK229.out 2).trans rfl
                    have hcz15_3 : wr.cell? ⟨gb229, 3, none⟩ = some (.int .i64 a0_3) := (blk_cell BK229.out 3).trans rfl
                    have hcz15_4 : wr.cell? ⟨gb229, 4, none⟩ = some (.slice A0_4 l0_4.length c0_4) := (blk_cell BK229.out 4).trans rfl
                    have hfz15_0 := blk_frozen BK229.out 0
                    have hfz15_1 := blk_frozen BK229.out 1
                    have hfz15_2 := blk_frozen BK229.out 2
                    have hfz15_3 := blk_frozen BK229.out 3
                    have hfz15_4 := blk_frozen BK229.out 4
                    have p231 : 0 ≤ (x3_2 : Int) := of_decide_eq_true (by first | (with_reducible assumption) | assumption)
                    have q231 : x3_2 < (l0_4.length : Int) := of_decide_eq_true (by first | (with_reducible assumption) | assumption)
                    obtain ⟨ad231, e231, hx231_0, hx231_1⟩ := at_T24 HR0_4.out x3_2 p231 q231
                    cases e231
                    replace hx231_0 := (HB.out.cell (World.block_lt_of_cell? w _ hx231_0)).trans hx231_0
                    replace hx231_1 := (HB.out.cell (World.block_lt_of_cell? w _ hx231_1)).trans hx231_1
                    replace p231 := eq_true p231
                    replace q231 := eq_true q231
                    have p232 : 0 ≤ (x3_2 : Int) := of_decide_eq_true (by first | (with_reducible assumption) | assumption)
                    have q232 : x3_2 < (l0_4.length : Int) := of_decide_eq_true (by first | (with_reducible assumption) | assumption)
                    obtain ⟨ad232, e232, hx232_0, hx232_1⟩ := at_T24 HR0_4.out x3_2 p232 q232
                    obtain rfl : ad231 = ad232 := (by injection e232)
                    replace hx232_0 := (HB.out.cell (World.block_lt_of_cell? w _ hx232_0)).trans hx232_0
                    replace hx232_1 := (HB.out.cell (World.block_lt_of_cell? w _ hx232_1)).trans hx232_1
                    replace p232 := eq_true p232
                    replace q232 := eq_true q232
                    go_wp2
                    repeat (go_quiet (fail); try go_wp2)
                    go_ret
                    exact ⟨by first | rfl | (simp [errW_none, errW_some] <;> rfl) | (simp [*, errW_none, errW_some] <;> rfl), by repeat (first | (with_reducible first | exact HB.out | apply below_alloc | apply pw_below_drewN | apply below_drew1 | refine below_set ?_ GE229.out) | exact HB.out)⟩
                  · rw [if_neg c14] at H
                    have c14b0 : decide (40 < (wrap64 (((rd_T24 l0_4 x3_2).f1) - ((rd_T24 l0_4 x3_2).f0)))) = false := decide_eq_false c14
                    clear c14
                    have H' := Aside0.mk H
                    clear H
                    have hcz16_0 : wr.cell? ⟨gb229, 0, none⟩ = some (.slice A0_0 l0_0.length c0_0) := (blk_cell BK229.out 0).trans rfl
                    have hcz16_1 : wr.cell? ⟨gb229, 1, none⟩ = some (.slice A0_1 l0_1.length c0_1) := (blk_cell BK229.out 1).trans rfl
                    have hcz16_2 : wr.cell? ⟨gb229, 2, none⟩ = some (.int .i64 a0_2) := (blk_cell BK229.out 2).trans rfl
                    have hcz16_3 : wr.cell? ⟨gb229, 3, none⟩ = some (.int .i64 a0_3) := (blk_cell BK229.out 3).trans rfl
                    have hcz16_4 : wr.cell? ⟨gb229, 4, none⟩ = some (.slice A0_4 l0_4.length c0_4) := (blk_cell BK229.out 4).trans rfl
                    have hfz16_0 := blk_frozen BK229.out 0
                    have hfz16_1 := blk_frozen BK229.out 1
                    have hfz16_2 := blk_frozen BK229.out 2
                    have hfz16_3 := blk_frozen BK229.out 3
                    have hfz16_4 := blk_frozen BK229.out 4
                    have p231 : 0 ≤ (x3_2 : Int) := of_decide_eq_true (by first | (with_reducible assumption) | assumption)
                    have q231 : x3_2 < (l0_4.length : Int) := of_decide_eq_true (by first | (with_reducible assumption) | assumption)
                    obtain ⟨ad231, e231, hx231_0, hx231_1⟩ := at_T24 HR0_4.out x3_2 p231 q231
                    cases e231
                    replace hx231_0 := (HB.out.cell (World.block_lt_of_cell? w _ hx231_0)).trans hx231_0
                    replace hx231_1 := (HB.out.cell (World.block_lt_of_cell? w _ hx231_1)).trans hx231_1
                    replace p231 := eq_true p231
                    replace q231 := eq_true q231
                    have p232 : 0 ≤ (x3_2 : Int) := of_decide_eq_true (by first | (with_reducible assumption) | assumption)
                    have q232 : x3_2 < (l0_4.length : Int) := of_decide_eq_true (by first | (with_reducible assumption) | assumption)
                    obtain ⟨ad232, e232, hx232_0, hx232_1⟩ := at_T24 HR0_4.out x3_2 p232 q232
                    obtain rfl : ad231 = ad232 := (by injection e232)
                    replace hx232_0 := (HB.out.cell (World.block_lt_of_cell? w _ hx232_0)).trans hx232_0
                    replace hx232_1 := (HB.out.cell (World.block_lt_of_cell? w _ hx232_1)).trans hx232_1
                    replace p232 := eq_true p232
                    replace q232 := eq_true q232
                    go_wp2
                    repeat (go_quiet (fail); try go_wp2)
                    go_roundg k2
                    case measure => have := HJ3.out; have := HK2.out; omega
                    case rel => exact ⟨(wrap64 (x3_2 + 1)), (by first | rfl | (simp; done) | (simp [*]; done)), H', ⟨by have := HJ3.out; have := HK2.out; omega⟩, ⟨by (with_reducible repeat (first | refine blk_drewN ?_ _ | refine blk_drew ?_ | refine blk_alloc ?_ _)); exact BK229.out⟩, ⟨by repeat (first | (with_reducible first | exact HB.out | apply below_alloc | apply pw_below_drewN | apply below_drew1 | refine below_set ?_ GE229.out) | exact HB.out)⟩⟩
                · rw [if_neg c13] at H
                  exact absurd H (by simp)
              · rw [if_neg c12] at H
                have c12b0 : decide (x3_2 < (l0_4.length : Int)) = false := decide_eq_false c12
                clear c12
                obtain rfl := Option.some.inj H
                have hcz17_0 : wr.cell? ⟨gb229, 0, none⟩ = some (.slice A0_0 l0_0.length c0_0) := (blk_cell BK229.out 0).trans rfl
                have hcz17_1 : wr.cell? ⟨gb229, 1, none⟩ = some (.slice A0_1 l0_1.length c0_1) := (blk_cell BK229.out 1).trans rfl
                have hcz17_2 : wr.cell? ⟨gb229, 2, none⟩ = some (.int .i64 a0_2) := (blk_cell BK229.out 2).trans rfl
                have hcz17_3 : wr.cell? ⟨gb229, 3, none⟩ = some (.int .i64 a0_3) := (blk_cell BK229.out 3).trans rfl
                have hcz17_4 : wr.cell? ⟨gb229, 4, none⟩ = some (.slice A0_4 l0_4.length c0_4) := (blk_cell BK229.out 4).trans rfl
                have hfz17_0 := blk_frozen BK229.out 0
                have hfz17_1 := blk_frozen BK229.out 1
                have hfz17_2 := blk_frozen BK229.out 2
                have hfz17_3 := blk_frozen BK229.out 3
                have hfz17_4 := blk_frozen BK229.out 4
                go_wp2
                repeat (go_quiet (fail); try go_wp2)
                go_ret
                exact ⟨by first | rfl | (simp [errW_none, errW_some] <;> rfl) | (simp [*, errW_none, errW_some] <;> rfl), by repeat (first | (with_reducible first | exact HB.out | apply below_alloc | apply pw_below_drewN | apply below_drew1 | refine below_set ?_ GE229.out) | exact HB.out)⟩
  · rw [if_neg c3] at H
    have c3b0 : (t230 == 0) = false := beq_eq_false_iff_ne.mpr c3
    have c3b1 : (t230 != 0) = true := bne_iff_ne.mpr c3
    obtain rfl := Option.some.inj H
    go_enter Tryd.func24, Tryd.ntmps24
    go_wp2_with (first | ((with_reducible refine gate_dst (N := 1) rfl ?_); refine box_event ?hg (N := 1) ?hd (cs := #[.slice A0_0 l0_0.length c0_0, .slice A0_1 l0_1.length c0_1, .int .i64 a0_2, .int .i64 a0_3, .slice A0_4 l0_4.length c0_4]) (t := 26) ?hr ?_; (case hd => rfl); (case hg => rfl); (case hr => first | (go_simp; done) | (go_simp; rfl)); intro gb229 hg w18 hbox hb; have n0_ := Aside0.mk (below_step (by repeat (first | (with_reducible first | exact HB.out | apply below_alloc | apply pw_below_drewN | apply below_drew1) | exact HB.out)) hb); have n1_ := Aside0.mk (hbox); have n2_ := Aside0.mk ((by rw [hg]; exact (below_size (by repeat (first | (with_reducible first | exact HB.out | apply below_alloc | apply pw_below_drewN | apply below_drew1) | exact HB.out))) : w.heap.size ≤ gb229)); have n3_ := Aside0.mk ((by rw [hg]; exact (below_size (by repeat (first | (with_reducible first | exact HB.out | apply below_alloc | apply pw_below_drewN | apply below_drew1) | exact HB.out))) : w.heap.size ≤ gb229)); clear HB; have HB := n0_; have BK229 := n1_; have GW229 := n2_; have GE229 := n3_; clear n0_ n1_ n2_ n3_; clear hb hbox hg; have hcz19_0 : w18.cell? ⟨gb229, 0, none⟩ = some (.slice A0_0 l0_0.length c0_0) := (blk_cell BK229.out 0).trans rfl; have hcz19_1 : w18.cell? ⟨gb229, 1, none⟩ = some (.slice A0_1 l0_1.length c0_1) := (blk_cell BK229.out 1).trans rfl; have hcz19_2 : w18.cell? ⟨gb229, 2, none⟩ = some (.int .i64 a0_2) := (blk_cell BK229.out 2).trans rfl; have hcz19_3 : w18.cell? ⟨gb229, 3, none⟩ = some (.int .i64 a0_3) := (blk_cell BK229.out 3).trans rfl; have hcz19_4 : w18.cell? ⟨gb229, 4, none⟩ = some (.slice A0_4 l0_4.length c0_4) := (blk_cell BK229.out 4).trans rfl; have hfz19_0 := blk_frozen BK229.out 0; have hfz19_1 := blk_frozen BK229.out 1; have hfz19_2 := blk_frozen BK229.out 2; have hfz19_3 := blk_frozen BK229.out 3; have hfz19_4 := blk_frozen BK229.out 4) | (go_at_call 21; (with_reducible refine (peaveyref11_CheckSheet.calls k _ _ l0_0 _ _ l0_1 a0_2 a0_3 _ _ l0_4 t230 _ ?side1 ?side2 ?side3 ?side4 ?side5 ?side6 A2.out).mono ?_); (case side1 => repeat (first | exact (Kd.C_below HR0_0.out HB.out) | (with_reducible refine Kd.C_alloc ?_ _) | (with_reducible refine Kd.C_drewN ?_ _) | (with_reducible refine Kd.C_drew ?_))); (case side2 => exact HC0_0.out); (case side3 => repeat (first | exact (Kd.C_below HR0_1.out HB.out) | (with_reducible refine Kd.C_alloc ?_ _) | (with_reducible refine Kd.C_drewN ?_ _) | (with_reducible refine Kd.C_drew ?_))); (case side4 => exact HC0_1.out); (case side5 => repeat (first | exact (Kd.C_below HR0_4.out HB.out) | (with_reducible refine Kd.C_alloc ?_ _) | (with_reducible refine Kd.C_drewN ?_ _) | (with_reducible refine Kd.C_drew ?_))); (case side6 => exact HC0_4.out); rintro e w20 ⟨rfl, hb⟩; have n0_ := Aside0.mk (blk_below (g := gb229) (o := .cells #[.slice A0_0 l0_0.length c0_0, .slice A0_1 l0_1.length c0_1, .int .i64 a0_2, .int .i64 a0_3, .slice A0_4 l0_4.length c0_4] 26 (0, 0)) (by (with_reducible repeat (first | refine blk_drewN ?_ _ | refine blk_drew ?_ | refine blk_alloc ?_ _)); exact BK229.out) hb); have n1_ := Aside0.mk (below_step (by repeat (first | (with_reducible first | exact HB.out | apply below_alloc | apply pw_below_drewN | apply below_drew1 | refine below_set ?_ GE229.out) | exact HB.out)) hb); clear BK229; clear HB; have BK229 := n0_; have HB := n1_; clear n0_ n1_; (try clear hb); (try clear hb2); (try clear hk); (try clear hi)))
    repeat (go_quiet (first | ((with_reducible refine gate_dst (N := 1) rfl ?_); refine box_event ?hg (N := 1) ?hd (cs := #[.slice A0_0 l0_0.length c0_0, .slice A0_1 l0_1.length c0_1, .int .i64 a0_2, .int .i64 a0_3, .slice A0_4 l0_4.length c0_4]) (t := 26) ?hr ?_; (case hd => rfl); (case hg => rfl); (case hr => first | (go_simp; done) | (go_simp; rfl)); intro gb229 hg w18 hbox hb; have n0_ := Aside0.mk (below_step (by repeat (first | (with_reducible first | exact HB.out | apply below_alloc | apply pw_below_drewN | apply below_drew1) | exact HB.out)) hb); have n1_ := Aside0.mk (hbox); have n2_ := Aside0.mk ((by rw [hg]; exact (below_size (by repeat (first | (with_reducible first | exact HB.out | apply below_alloc | apply pw_below_drewN | apply below_drew1) | exact HB.out))) : w.heap.size ≤ gb229)); have n3_ := Aside0.mk ((by rw [hg]; exact (below_size (by repeat (first | (with_reducible first | exact HB.out | apply below_alloc | apply pw_below_drewN | apply below_drew1) | exact HB.out))) : w.heap.size ≤ gb229)); clear HB; have HB := n0_; have BK229 := n1_; have GW229 := n2_; have GE229 := n3_; clear n0_ n1_ n2_ n3_; clear hb hbox hg; have hcz19_0 : w18.cell? ⟨gb229, 0, none⟩ = some (.slice A0_0 l0_0.length c0_0) := (blk_cell BK229.out 0).trans rfl; have hcz19_1 : w18.cell? ⟨gb229, 1, none⟩ = some (.slice A0_1 l0_1.length c0_1) := (blk_cell BK229.out 1).trans rfl; have hcz19_2 : w18.cell? ⟨gb229, 2, none⟩ = some (.int .i64 a0_2) := (blk_cell BK229.out 2).trans rfl; have hcz19_3 : w18.cell? ⟨gb229, 3, none⟩ = some (.int .i64 a0_3) := (blk_cell BK229.out 3).trans rfl; have hcz19_4 : w18.cell? ⟨gb229, 4, none⟩ = some (.slice A0_4 l0_4.length c0_4) := (blk_cell BK229.out 4).trans rfl; have hfz19_0 := blk_frozen BK229.out 0; have hfz19_1 := blk_frozen BK229.out 1; have hfz19_2 := blk_frozen BK229.out 2; have hfz19_3 := blk_frozen BK229.out 3; have hfz19_4 := blk_frozen BK229.out 4) | (go_at_call 21; (with_reducible refine (peaveyref11_CheckSheet.calls k _ _ l0_0 _ _ l0_1 a0_2 a0_3 _ _ l0_4 t230 _ ?side1 ?side2 ?side3 ?side4 ?side5 ?side6 A2.out).mono ?_); (case side1 => repeat (first | exact (Kd.C_below HR0_0.out HB.out) | (with_reducible refine Kd.C_alloc ?_ _) | (with_reducible refine Kd.C_drewN ?_ _) | (with_reducible refine Kd.C_drew ?_))); (case side2 => exact HC0_0.out); (case side3 => repeat (first | exact (Kd.C_below HR0_1.out HB.out) | (with_reducible refine Kd.C_alloc ?_ _) | (with_reducible refine Kd.C_drewN ?_ _) | (with_reducible refine Kd.C_drew ?_))); (case side4 => exact HC0_1.out); (case side5 => repeat (first | exact (Kd.C_below HR0_4.out HB.out) | (with_reducible refine Kd.C_alloc ?_ _) | (with_reducible refine Kd.C_drewN ?_ _) | (with_reducible refine Kd.C_drew ?_))); (case side6 => exact HC0_4.out); rintro e w20 ⟨rfl, hb⟩; have n0_ := Aside0.mk (blk_below (g := gb229) (o := .cells #[.slice A0_0 l0_0.length c0_0, .slice A0_1 l0_1.length c0_1, .int .i64 a0_2, .int .i64 a0_3, .slice A0_4 l0_4.length c0_4] 26 (0, 0)) (by (with_reducible repeat (first | refine blk_drewN ?_ _ | refine blk_drew ?_ | refine blk_alloc ?_ _)); exact BK229.out) hb); have n1_ := Aside0.mk (below_step (by repeat (first | (with_reducible first | exact HB.out | apply below_alloc | apply pw_below_drewN | apply below_drew1 | refine below_set ?_ GE229.out) | exact HB.out)) hb); clear BK229; clear HB; have BK229 := n0_; have HB := n1_; clear n0_ n1_; (try clear hb); (try clear hb2); (try clear hk); (try clear hi))); try go_wp2_with (first | ((with_reducible refine gate_dst (N := 1) rfl ?_); refine box_event ?hg (N := 1) ?hd (cs := #[.slice A0_0 l0_0.length c0_0, .slice A0_1 l0_1.length c0_1, .int .i64 a0_2, .int .i64 a0_3, .slice A0_4 l0_4.length c0_4]) (t := 26) ?hr ?_; (case hd => rfl); (case hg => rfl); (case hr => first | (go_simp; done) | (go_simp; rfl)); intro gb229 hg w18 hbox hb; have n0_ := Aside0.mk (below_step (by repeat (first | (with_reducible first | exact HB.out | apply below_alloc | apply pw_below_drewN | apply below_drew1) | exact HB.out)) hb); have n1_ := Aside0.mk (hbox); have n2_ := Aside0.mk ((by rw [hg]; exact (below_size (by repeat (first | (with_reducible first | exact HB.out | apply below_alloc | apply pw_below_drewN | apply below_drew1) | exact HB.out))) : w.heap.size ≤ gb229)); have n3_ := Aside0.mk ((by rw [hg]; exact (below_size (by repeat (first | (with_reducible first | exact HB.out | apply below_alloc | apply pw_below_drewN | apply below_drew1) | exact HB.out))) : w.heap.size ≤ gb229)); clear HB; have HB := n0_; have BK229 := n1_; have GW229 := n2_; have GE229 := n3_; clear n0_ n1_ n2_ n3_; clear hb hbox hg; have hcz19_0 : w18.cell? ⟨gb229, 0, none⟩ = some (.slice A0_0 l0_0.length c0_0) := (blk_cell BK229.out 0).trans rfl; have hcz19_1 : w18.cell? ⟨gb229, 1, none⟩ = some (.slice A0_1 l0_1.length c0_1) := (blk_cell BK229.out 1).trans rfl; have hcz19_2 : w18.cell? ⟨gb229, 2, none⟩ = some (.int .i64 a0_2) := (blk_cell BK229.out 2).trans rfl; have hcz19_3 : w18.cell? ⟨gb229, 3, none⟩ = some (.int .i64 a0_3) := (blk_cell BK229.out 3).trans rfl; have hcz19_4 : w18.cell? ⟨gb229, 4, none⟩ = some (.slice A0_4 l0_4.length c0_4) := (blk_cell BK229.out 4).trans rfl; have hfz19_0 := blk_frozen BK229.out 0; have hfz19_1 := blk_frozen BK229.out 1; have hfz19_2 := blk_frozen BK229.out 2; have hfz19_3 := blk_frozen BK229.out 3; have hfz19_4 := blk_frozen BK229.out 4) | (go_at_call 21; (with_reducible refine (peaveyref11_CheckSheet.calls k _ _ l0_0 _ _ l0_1 a0_2 a0_3 _ _ l0_4 t230 _ ?side1 ?side2 ?side3 ?side4 ?side5 ?side6 A2.out).mono ?_); (case side1 => repeat (first | exact (Kd.C_below HR0_0.out HB.out) | (with_reducible refine Kd.C_alloc ?_ _) | (with_reducible refine Kd.C_drewN ?_ _) | (with_reducible refine Kd.C_drew ?_))); (case side2 => exact HC0_0.out); (case side3 => repeat (first | exact (Kd.C_below HR0_1.out HB.out) | (with_reducible refine Kd.C_alloc ?_ _) | (with_reducible refine Kd.C_drewN ?_ _) | (with_reducible refine Kd.C_drew ?_))); (case side4 => exact HC0_1.out); (case side5 => repeat (first | exact (Kd.C_below HR0_4.out HB.out) | (with_reducible refine Kd.C_alloc ?_ _) | (with_reducible refine Kd.C_drewN ?_ _) | (with_reducible refine Kd.C_drew ?_))); (case side6 => exact HC0_4.out); rintro e w20 ⟨rfl, hb⟩; have n0_ := Aside0.mk (blk_below (g := gb229) (o := .cells #[.slice A0_0 l0_0.length c0_0, .slice A0_1 l0_1.length c0_1, .int .i64 a0_2, .int .i64 a0_3, .slice A0_4 l0_4.length c0_4] 26 (0, 0)) (by (with_reducible repeat (first | refine blk_drewN ?_ _ | refine blk_drew ?_ | refine blk_alloc ?_ _)); exact BK229.out) hb); have n1_ := Aside0.mk (below_step (by repeat (first | (with_reducible first | exact HB.out | apply below_alloc | apply pw_below_drewN | apply below_drew1 | refine below_set ?_ GE229.out) | exact HB.out)) hb); clear BK229; clear HB; have BK229 := n0_; have HB := n1_; clear n0_ n1_; (try clear hb); (try clear hb2); (try clear hk); (try clear hi))))
    go_ret
    exact ⟨by first | rfl | (simp [errW_none, errW_some] <;> rfl) | (simp [*, errW_none, errW_some] <;> rfl), by repeat (first | (with_reducible first | exact HB.out | apply below_alloc | apply pw_below_drewN | apply below_drew1 | refine below_set ?_ GE229.out) | exact HB.out)⟩
end Go.Proofs.YtcbhnhoicecnnaaDoor.PrK
namespace Go.Proofs.YtcbhnhoicecnnaaDoor.Hand
set_option linter.unusedVariables false
set_option linter.unusedSimpArgs false
open Go.RowKit Go.Shelf Go.Maps Go.Proofs.YtcbhnhoicecnnaaDoorW.PrintWords Go.Proofs.YtcbhnhoicecnnaaDoorW.PrintLast Go.Proofs.YtcbhnhoicecnnaaDoorW.PrintMore Go.Proofs.YtcbhnhoicecnnaaDoor.PrK
def greatS (s : ShM) : Prop := 10 < s.l0.length ∨ 10 < s.l1.length ∨ 60 < s.l4.length
theorem great_any (s : ShM) (w : World) (h : ShR w s) (r : Bool) (hr : r = true ↔ greatS s) :
    Calls Tryd.prog 16 #[.agg #[.slice s.A0 s.l0.length s.c0, .slice s.A1 s.l1.length s.c1, .int .i64 s.a2, .int .i64 s.a3, .slice s.A4 s.l4.length s.c4]] w fun e w' => e = .returned (.bool r) ∧ Below w.heap.size w w' := by
  refine peaveylaw11_great.calls s.A0 s.c0 s.l0 s.A1 s.c1 s.l1 s.a2 s.a3 s.A4 s.c4 s.l4 r w h.r0 h.h0 h.r1 h.h1 h.r4 h.h4 ?_
  unfold peaveylaw11_great.f
  unfold greatS at hr
  cases r
  · have hn : ¬ (10 < s.l0.length ∨ 10 < s.l1.length ∨ 60 < s.l4.length) := fun h => by simpa using hr.2 h
    rw [if_neg (by omega), if_neg (by omega), show decide ((s.l4.length : Int) > 60) = false from by simp; omega]
  · have hp := hr.1 rfl
    by_cases h0 : (s.l0.length : Int) > 10
    · rw [if_pos h0]
    by_cases h1 : (s.l1.length : Int) > 10
    · rw [if_neg h0, if_pos h1]
    rw [if_neg h0, if_neg h1, show decide ((s.l4.length : Int) > 60) = true from by simp; omega]
end Go.Proofs.YtcbhnhoicecnnaaDoor.Hand
namespace Go.Proofs.YtcbhnhoicecnnaaDoor.Hand
set_option linter.unusedVariables false
set_option linter.unusedSimpArgs false
open Go.RowKit Go.Shelf Go.Maps Go.Proofs.YtcbhnhoicecnnaaDoorW.PrintWords Go.Proofs.YtcbhnhoicecnnaaDoorW.PrintLast Go.Proofs.YtcbhnhoicecnnaaDoorW.PrintMore Go.Proofs.YtcbhnhoicecnnaaDoor.PrK
theorem weights_rd (s : ShM) (w : World) (hv : VarsAt w) (h : ShR w s) (hS : s.Ok) :
    Calls Tryd.prog 28 #[.agg #[.slice s.A0 s.l0.length s.c0, .slice s.A1 s.l1.length s.c1, .int .i64 s.a2, .int .i64 s.a3, .slice s.A4 s.l4.length s.c4]] w fun e w' => ∃ A c, e = .returned (.tuple #[.slice A (bestL s).length c, .int .i64 0]) ∧ Kd.C (Kd.int .i64) w' A (bestL s).length (bestL s) ∧ (bestL s).length ≤ c ∧ Below w.heap.size w w' := by
  refine (weights_ok s w hv h hS).mono ?_
  rintro e w' ⟨A7, c7, rfl, hx, hb⟩
  obtain ⟨A7', c7', e7, hc7, -, hr7⟩ := own_out hx
  have e8 : Value.slice A7 (s.l0.length + s.l1.length + 1) c7 = Value.slice A7' (bestL s).length c7' := e7
  refine ⟨A7', c7', by rw [e8], Kd.C_of_reads (d := (0 : Int)) (h1 := fun _ => rfl) hr7, hc7, hb⟩
theorem weights_ref (s : ShM) (hS : s.Ok) (A : Option Addr) (c : Nat) (w : World) (h : ShR w s) (hr : Kd.C (Kd.int .i64) w A (bestL s).length (bestL s)) (hc : (bestL s).length ≤ c) (nn : Int) (hnn : nn = offS s.sh) :
    Calls Tryd.prog 23 #[.agg #[.slice s.A0 s.l0.length s.c0, .slice s.A1 s.l1.length s.c1, .int .i64 s.a2, .int .i64 s.a3, .slice s.A4 s.l4.length s.c4], .slice A (bestL s).length c] w fun e w' => e = .returned (.tuple #[.int .i64 nn, .int .i64 0]) ∧ Below w.heap.size w w' :=
  peaveyref11_CheckWeights.calls 400 s.A0 s.c0 s.l0 s.A1 s.c1 s.l1 s.a2 s.a3 s.A4 s.c4 s.l4 A c (bestL s) nn 0 w h.r0 h.h0 h.r1 h.h1 h.r4 h.h4 hr hc (refWeights_any s hS (bestL s) (bestL_length s) (by omega) nn 0 (.inl ⟨bestL_in hS, by rw [bestL_bound hS, hnn], rfl⟩))
theorem wide_l (s : ShM) (hS : s.Ok) : ∀ (k i : Nat), i ≤ s.l4.length → s.l4.length < i + k → ∃ r, peaveylaw11_wide.l0 k (i : Int) s.l0 s.l1 s.a2 s.a3 s.l4 = some r
  | 0, i, h1, h2 => by omega
  | k + 1, i, h1, h2 => by
    have h25 := ShM.l25 hS
    unfold peaveylaw11_wide.l0
    by_cases hlt : (i : Int) < (s.l4.length : Int)
    · rw [if_pos hlt, if_pos (by omega)]
      by_cases hc : wrap64 ((rd_T24 s.l4 (i : Int)).f1 - (rd_T24 s.l4 (i : Int)).f0) > 40
      · rw [if_pos hc]; exact ⟨_, rfl⟩
      · rw [if_neg hc, show wrap64 ((i : Int) + 1) = ((i + 1 : Nat) : Int) from IntWalk.wrap64_in _ ⟨by omega, by omega⟩]
        exact wide_l s hS k (i + 1) (by omega) (by omega)
    · rw [if_neg hlt]; exact ⟨_, rfl⟩
theorem wide_j (s : ShM) (hS : s.Ok) (b : Bool) : ∃ r, peaveylaw11_wide.j0 200 b s.l0 s.l1 s.a2 s.a3 s.l4 = some r := by
  have h25 := ShM.l25 hS
  rw [show (200 : Nat) = 199 + 1 from rfl, peaveylaw11_wide.j0]
  cases b
  · rw [if_neg (by simp)]
    exact wide_l s hS 199 0 (by omega) (by omega)
  · exact ⟨true, if_pos rfl⟩
theorem wide_any (s : ShM) (h4 : s.l4.length ≤ 60) : ∃ r : Bool, ∀ w, ShR w s → Calls Tryd.prog 24 #[.agg #[.slice s.A0 s.l0.length s.c0, .slice s.A1 s.l1.length s.c1, .int .i64 s.a2, .int .i64 s.a3, .slice s.A4 s.l4.length s.c4]] w fun e w' => e = .returned (.bool r) ∧ Below w.heap.size w w' := by
  have hf : ∃ r, peaveylaw11_wide.f 200 s.l0 s.l1 s.a2 s.a3 s.l4 = some r := by
    unfold peaveylaw11_wide.f
    rw [refCheck_is s h4 (by omega), Option.bind_some]
    by_cases hS : csE s = 0
    · rw [if_pos hS]
      have hS := (csE_ok s).1 hS
      split
      · exact wide_j s hS _
      · exact wide_j s hS _
    · rw [if_neg hS]; exact ⟨_, rfl⟩
  obtain ⟨r, hr⟩ := hf
  exact ⟨r, fun w h => peaveylaw11_wide.calls 200 s.A0 s.c0 s.l0 s.A1 s.c1 s.l1 s.a2 s.a3 s.A4 s.c4 s.l4 r w h.r0 h.h0 h.r1 h.h1 h.r4 h.h4 hr⟩
set_option maxHeartbeats 4000000 in
set_option maxRecDepth 100000 in
theorem offs_any (s : ShM) (w : World) (hv : VarsAt w) (h : ShR w s) :
    Calls Tryd.prog 5 #[.agg #[.slice s.A0 s.l0.length s.c0, .slice s.A1 s.l1.length s.c1, .int .i64 s.a2, .int .i64 s.a3, .slice s.A4 s.l4.length s.c4]] w fun e w' => e = .returned (.bool true) ∧ Below w.heap.size w w' := by
  obtain ⟨W, hW⟩ : ∃ W, W = w.alloc (.cells #[.slice s.A0 s.l0.length s.c0, .slice s.A1 s.l1.length s.c1, .int .i64 s.a2, .int .i64 s.a3, .slice s.A4 s.l4.length s.c4] 26) := ⟨_, rfl⟩
  have hb : Below w.heap.size w W := by rw [hW]; exact (Below.refl _ _).alloc (Nat.le_refl _) _
  obtain ⟨b, hbe⟩ : ∃ b, b = w.heap.size := ⟨_, rfl⟩
  have hX : BoxS W b s := by rw [hW, hbe]; exact box_new w s
  have HX := Lib.hid (And.intro hb hX)
  have HG : Hid (∀ V, Below w.heap.size w V → ∀ r : Bool, (r = true ↔ greatS s) → Calls Tryd.prog 16 #[.agg #[.slice s.A0 s.l0.length s.c0, .slice s.A1 s.l1.length s.c1, .int .i64 s.a2, .int .i64 s.a3, .slice s.A4 s.l4.length s.c4]] V fun e w' => e = .returned (.bool r) ∧ Below V.heap.size V w') := Lib.hid fun V hV => great_any s V (h.below hV)
  have HW : Hid (∀ V, Below w.heap.size w V → Calls Tryd.prog 17 #[] V fun e w' => e = .returned (.bool true) ∧ Below V.heap.size V w') := Lib.hid fun V hV => works_any V (hv.below hV)
  have HR : Hid (∀ V, Below w.heap.size w V → ShR V s ∧ VarsAt V) := Lib.hid fun V hV => ⟨h.below hV, hv.below hV⟩
  clear hX hb h hv
  go_enter Tryd.func5, Tryd.ntmps5
  go_upto_region 1 with fail
  rw [← hW, ← hbe]
  clear hW hbe
  have hX := HX.out.2
  have x0 := hX.c0
  have x1 := hX.c1
  have x2 := hX.c2
  have x3 := hX.c3
  have x4 := hX.c4
  clear hX
  by_cases hg : greatS s
  · go_upto_region 2 with (go_at_call 16; refine (HG.out _ HX.out.1 true ⟨fun _ => hg, fun _ => rfl⟩).mono ?_; rintro e v1 ⟨rfl, h1⟩; have Hv1 := Lib.hid (HX.out.1.trans (h1.mono HX.out.1.size)); clear h1)
    clear x0 x1 x2 x3 x4
    go_wp2_with (go_at_call 17; refine (HW.out _ Hv1.out).mono ?_; rintro e v2 ⟨rfl, h1⟩; have Hv2 := Lib.hid (Hv1.out.trans (h1.mono Hv1.out.size)); clear h1)
    refine bodyPost_ret (results_tmp (t := 2) rfl _ _ _) rfl ?_
    exact ⟨rfl, Hv2.out⟩
  have h4 : s.l4.length ≤ 60 := by unfold greatS at hg; omega
  obtain ⟨r, hwd⟩ := wide_any s h4
  have HD : Hid (∀ w, ShR w s → Calls Tryd.prog 24 #[.agg #[.slice s.A0 s.l0.length s.c0, .slice s.A1 s.l1.length s.c1, .int .i64 s.a2, .int .i64 s.a3, .slice s.A4 s.l4.length s.c4]] w fun e w' => e = .returned (.bool r) ∧ Below w.heap.size w w') := Lib.hid hwd
  clear hwd
  cases r
  rotate_left
  · go_upto_region 2 with (first | (go_at_call 16; refine (HG.out _ HX.out.1 false ⟨fun h => by simp at h, fun h => absurd h hg⟩).mono ?_; rintro e v1 ⟨rfl, h1⟩; have hX1 := HX.out.2.below h1; have y0 := hX1.c0; have y1 := hX1.c1; have y2 := hX1.c2; have y3 := hX1.c3; have y4 := hX1.c4; have Hv1 := Lib.hid (And.intro (HX.out.1.trans (h1.mono HX.out.1.size)) hX1); clear h1 hX1 x0 x1 x2 x3 x4) | (go_at_call 24; refine (HD.out _ (HR.out _ Hv1.out.1).1).mono ?_; rintro e v2 ⟨rfl, h1⟩; have Hv2 := Lib.hid h1; clear h1 y0 y1 y2 y3 y4))
    replace HX := Lib.hid (And.intro (Hv1.out.1.trans (Hv2.out.mono Hv1.out.1.size)) (Hv1.out.2.below Hv2.out))
    go_wp2_with (go_at_call 17; refine (HW.out _ HX.out.1).mono ?_; rintro e v3 ⟨rfl, h1⟩; have Hv3 := Lib.hid (HX.out.1.trans (h1.mono HX.out.1.size)); clear h1)
    refine bodyPost_ret (results_tmp (t := 2) rfl _ _ _) rfl ?_
    exact ⟨rfl, Hv3.out⟩
  go_upto_region 3 with (first | (go_at_call 16; refine (HG.out _ HX.out.1 false ⟨fun h => by simp at h, fun h => absurd h hg⟩).mono ?_; rintro e v1 ⟨rfl, h1⟩; have hX1 := HX.out.2.below h1; have y0 := hX1.c0; have y1 := hX1.c1; have y2 := hX1.c2; have y3 := hX1.c3; have y4 := hX1.c4; have Hv1 := Lib.hid (And.intro (HX.out.1.trans (h1.mono HX.out.1.size)) hX1); clear h1 hX1 x0 x1 x2 x3 x4) | (go_at_call 24; refine (HD.out _ (HR.out _ Hv1.out.1).1).mono ?_; rintro e v2 ⟨rfl, h1⟩; have Hv2 := Lib.hid h1; clear h1 y0 y1 y2 y3 y4))
  replace HX := Lib.hid (And.intro (Hv1.out.1.trans (Hv2.out.mono Hv1.out.1.size)) (Hv1.out.2.below Hv2.out))
  clear Hv1 Hv2
  have x0 := HX.out.2.c0
  have x1 := HX.out.2.c1
  have x2 := HX.out.2.c2
  have x3 := HX.out.2.c3
  have x4 := HX.out.2.c4
  by_cases hS : s.Ok
  · obtain ⟨nn, hnn⟩ : ∃ nn, nn = offS s.sh := ⟨_, rfl⟩
    have H1 : Hid (∀ V, Below w.heap.size w V → Calls Tryd.prog 25 #[.agg #[.slice s.A0 s.l0.length s.c0, .slice s.A1 s.l1.length s.c1, .int .i64 s.a2, .int .i64 s.a3, .slice s.A4 s.l4.length s.c4]] V (fun e w' => e = .returned (.tuple #[.int .i64 nn, .int .i64 0]) ∧ Below V.heap.size V w')) := Lib.hid fun V hV => off_ok s V (HR.out V hV).2 (HR.out V hV).1 hS nn hnn
    have H2 : Hid (∀ V, Below w.heap.size w V → Calls Tryd.prog 26 #[.agg #[.slice s.A0 s.l0.length s.c0, .slice s.A1 s.l1.length s.c1, .int .i64 s.a2, .int .i64 s.a3, .slice s.A4 s.l4.length s.c4]] V (fun e w' => e = .returned (.tuple #[.int .i64 nn, .int .i64 0]) ∧ Below V.heap.size V w')) := Lib.hid fun V hV => refOff_ok s V (HR.out V hV).1 hS nn hnn
    have H3 := Lib.hid fun (V : World) (hV : Below w.heap.size w V) => table_ok s V (HR.out V hV).2 (HR.out V hV).1 hS
    have H4 := Lib.hid fun (V : World) (hV : Below w.heap.size w V) => weights_rd s V (HR.out V hV).2 (HR.out V hV).1 hS
    have H5 : Hid (∀ (V : World) (Tb : Nat), Below w.heap.size w V → Kd.C (Kd.int .i64) V (some ⟨Tb, 0, none⟩) (bestT s.sh).length (bestT s.sh) → Calls Tryd.prog 19 #[.agg #[.slice s.A0 s.l0.length s.c0, .slice s.A1 s.l1.length s.c1, .int .i64 s.a2, .int .i64 s.a3, .slice s.A4 s.l4.length s.c4], .slice (some ⟨Tb, 0, none⟩) (bestT s.sh).length (bestT s.sh).length] V (fun e w' => e = .returned (.tuple #[.int .i64 nn, .int .i64 0]) ∧ Below V.heap.size V w')) := Lib.hid fun V Tb hV hT => refWrong_ok s (some ⟨Tb, 0, none⟩) (bestT s.sh).length (bestT s.sh) V (HR.out V hV).1 hT (Nat.le_refl _) hS (best_in hS) nn hnn
    have H6 : Hid (∀ (V : World) (A : Option Addr) (c : Nat), Below w.heap.size w V → Kd.C (Kd.int .i64) V A (bestL s).length (bestL s) → (bestL s).length ≤ c → Calls Tryd.prog 23 #[.agg #[.slice s.A0 s.l0.length s.c0, .slice s.A1 s.l1.length s.c1, .int .i64 s.a2, .int .i64 s.a3, .slice s.A4 s.l4.length s.c4], .slice A (bestL s).length c] V (fun e w' => e = .returned (.tuple #[.int .i64 nn, .int .i64 0]) ∧ Below V.heap.size V w')) := Lib.hid fun V A c hV hA hc => weights_ref s hS A c V (HR.out V hV).1 hA hc nn hnn
    clear hS hnn h4 hg HG HD
    go_upto_region 4 with (go_at_call 25; refine (H1.out _ HX.out.1).mono ?_; rintro e v3 ⟨rfl, h1⟩; have Hv3 := Lib.hid h1; clear h1)
    clear x0 x1 x2 x3 x4
    replace HX := Lib.hid (And.intro (HX.out.1.trans (Hv3.out.mono HX.out.1.size)) (HX.out.2.below Hv3.out))
    have x0 := HX.out.2.c0
    have x1 := HX.out.2.c1
    have x2 := HX.out.2.c2
    have x3 := HX.out.2.c3
    have x4 := HX.out.2.c4
    go_upto_region 5 with (go_at_call 26; refine (H2.out _ HX.out.1).mono ?_; rintro e v4 ⟨rfl, h1⟩; have Hv4 := Lib.hid h1; clear h1)
    clear x0 x1 x2 x3 x4
    replace HX := Lib.hid (And.intro (HX.out.1.trans (Hv4.out.mono HX.out.1.size)) (HX.out.2.below Hv4.out))
    have x0 := HX.out.2.c0
    have x1 := HX.out.2.c1
    have x2 := HX.out.2.c2
    have x3 := HX.out.2.c3
    have x4 := HX.out.2.c4
    go_upto_region 6 with (go_at_call 27; refine (H3.out _ HX.out.1).mono ?_; rintro e v5 ⟨Tb, rfl, hT, h1⟩; have HT := Lib.hid hT; have Hv5 := Lib.hid h1; clear h1 hT)
    clear x0 x1 x2 x3 x4
    replace HX := Lib.hid (And.intro (HX.out.1.trans (Hv5.out.mono HX.out.1.size)) (HX.out.2.below Hv5.out))
    have x0 := HX.out.2.c0
    have x1 := HX.out.2.c1
    have x2 := HX.out.2.c2
    have x3 := HX.out.2.c3
    have x4 := HX.out.2.c4
    go_upto_region 7 with (go_at_call 28; refine (H4.out _ HX.out.1).mono ?_; rintro e v6 ⟨A6, c6, rfl, hT, hc, h1⟩; have HA := Lib.hid (And.intro hT hc); have Hv6 := Lib.hid h1; clear h1 hT hc)
    clear x0 x1 x2 x3 x4
    replace HX := Lib.hid (And.intro (HX.out.1.trans (Hv6.out.mono HX.out.1.size)) (HX.out.2.below Hv6.out))
    have x0 := HX.out.2.c0
    have x1 := HX.out.2.c1
    have x2 := HX.out.2.c2
    have x3 := HX.out.2.c3
    have x4 := HX.out.2.c4
    replace HT := Lib.hid (Kd.C_below HT.out Hv6.out)
    go_upto_region 12 with (go_at_call 19; refine (H5.out _ Tb HX.out.1 HT.out).mono ?_; rintro e v7 ⟨rfl, h1⟩; have Hv7 := Lib.hid h1; clear h1)
    clear x0 x1 x2 x3 x4
    replace HX := Lib.hid (And.intro (HX.out.1.trans (Hv7.out.mono HX.out.1.size)) (HX.out.2.below Hv7.out))
    have x0 := HX.out.2.c0
    have x1 := HX.out.2.c1
    have x2 := HX.out.2.c2
    have x3 := HX.out.2.c3
    have x4 := HX.out.2.c4
    replace HA := Lib.hid (And.intro (Kd.C_below HA.out.1 Hv7.out) HA.out.2)
    go_upto_region 13 with (go_at_call 23; refine (H6.out _ A6 c6 HX.out.1 HA.out.1 HA.out.2).mono ?_; rintro e v8 ⟨rfl, h1⟩; have Hv8 := Lib.hid h1; clear h1)
    clear x0 x1 x2 x3 x4
    replace HX := Lib.hid (HX.out.1.trans (Hv8.out.mono HX.out.1.size))
    go_wp2_with (go_at_call 17; refine (HW.out _ HX.out).mono ?_; rintro e v9 ⟨rfl, h1⟩; have Hv9 := Lib.hid (HX.out.trans (h1.mono HX.out.size)); clear h1)
    refine bodyPost_ret (results_tmp (t := 2) rfl _ _ _) rfl ?_
    exact ⟨rfl, Hv9.out⟩
  · have hne : ¬ csE s = 0 := fun e => hS ((csE_ok s).1 e)
    obtain ⟨er, her⟩ : ∃ er, er = csE s := ⟨_, rfl⟩
    have gn : (er != 0) = true := by rw [her]; simpa using hne
    rw [← her] at hne
    have H1 := Lib.hid fun (V : World) (hV : Below w.heap.size w V) => off_bad s V (HR.out V hV).1 er her hne
    have H2 := Lib.hid fun (V : World) (hV : Below w.heap.size w V) => refOff_bad s V (HR.out V hV).1 h4 er her hne
    have H3 := Lib.hid fun (V : World) (hV : Below w.heap.size w V) => table_bad s V (HR.out V hV).1 er her hne
    have H4 := Lib.hid fun (V : World) (hV : Below w.heap.size w V) => weights_bad s V (HR.out V hV).1 er her hne
    clear hS hne her h4 hg HG HD
    go_upto_region 4 with (go_at_call 25; refine (H1.out _ HX.out.1).mono ?_; rintro e v3 ⟨rfl, h1⟩; have Hv3 := Lib.hid h1; clear h1)
    clear x0 x1 x2 x3 x4
    replace HX := Lib.hid (And.intro (HX.out.1.trans (Hv3.out.mono HX.out.1.size)) (HX.out.2.below Hv3.out))
    have x0 := HX.out.2.c0
    have x1 := HX.out.2.c1
    have x2 := HX.out.2.c2
    have x3 := HX.out.2.c3
    have x4 := HX.out.2.c4
    go_upto_region 5 with (go_at_call 26; refine (H2.out _ HX.out.1).mono ?_; rintro e v4 ⟨rfl, h1⟩; have Hv4 := Lib.hid h1; clear h1)
    clear x0 x1 x2 x3 x4
    replace HX := Lib.hid (And.intro (HX.out.1.trans (Hv4.out.mono HX.out.1.size)) (HX.out.2.below Hv4.out))
    have x0 := HX.out.2.c0
    have x1 := HX.out.2.c1
    have x2 := HX.out.2.c2
    have x3 := HX.out.2.c3
    have x4 := HX.out.2.c4
    go_upto_region 6 with (go_at_call 27; refine (H3.out _ HX.out.1).mono ?_; rintro e v5 ⟨rfl, h1⟩; have Hv5 := Lib.hid h1; clear h1)
    clear x0 x1 x2 x3 x4
    replace HX := Lib.hid (And.intro (HX.out.1.trans (Hv5.out.mono HX.out.1.size)) (HX.out.2.below Hv5.out))
    have x0 := HX.out.2.c0
    have x1 := HX.out.2.c1
    have x2 := HX.out.2.c2
    have x3 := HX.out.2.c3
    have x4 := HX.out.2.c4
    go_upto_region 7 with (go_at_call 28; refine (H4.out _ HX.out.1).mono ?_; rintro e v6 ⟨rfl, h1⟩; have Hv6 := Lib.hid h1; clear h1)
    clear x0 x1 x2 x3 x4
    replace HX := Lib.hid (HX.out.1.trans (Hv6.out.mono HX.out.1.size))
    go_wp2_with (go_at_call 17; refine (HW.out _ HX.out).mono ?_; rintro e v9 ⟨rfl, h1⟩; have Hv9 := Lib.hid (HX.out.trans (h1.mono HX.out.size)); clear h1)
    refine bodyPost_ret (results_tmp (t := 2) rfl _ _ _) rfl ?_
    exact ⟨rfl, Hv9.out⟩
end Go.Proofs.YtcbhnhoicecnnaaDoor.Hand
namespace Go.Proofs.YtcbhnhoicecnnaaDoor.tallyOffs
open Go.ChangeShapes Go.WideShapes Go.ChangeAt Go.RowKit Go.Deep Go.Proofs.YtcbhnhoicecnnaaDoorW.PrintWords Go.Proofs.YtcbhnhoicecnnaaDoor.Hand
set_option linter.unusedVariables false
set_option linter.unusedSimpArgs false
set_option maxRecDepth 100000
theorem lifted (os : Os) (started : os.Started) (H : Type) (enc : TypeId × Value → H) :
    ReturnsInHanded {} Tryd.checked os 5 .any (fun w args => (Rows.tallyOffsSpec.pre enc Tryd.prog Tryd.f5 [] false w args ∧ laidMetH Tryd.prog laidD w) ∧ sizedMet enc Tryd.prog Tryd.f5 (OpenSpec.ofChange Rows.tallyOffsSpec) false w args)
      (Rows.tallyOffsSpec.post enc Tryd.prog Tryd.f5 false true false false) := by
  refine returnsInHanded_of_change_and (C := Tryd.checked) (X := fun w _ => laidMetH Tryd.prog laidD w) (fun _ _ _ hh h => h.of_heap hh) ownD started (by kernel_rfl) Tryd.func5
    (ChangeSpec.witness_shaped (enc := enc) (C := Tryd.checked) (os := os) (X := fun w _ => laidMetH Tryd.prog laidD w) false (World.doorLaid Tryd.prog 400 os) #[.agg #[.slice none 0 0, .slice none 0 0, .int .i64 0, .int .i64 0, .slice none 0 0]] 8 rfl (World.shaped_of_RefB (by kernel_rfl) (by kernel_rfl)) (by kernel_rfl) (by kernel_rfl) (by kernel_rfl) (door_metD os _)) ?_
  intro W base args ds gs before hval0 hW _ _ hL _
  have hval : ∀ (j : Nat) t v, Tryd.f5.params[j]? = some t → args[j]? = some v → Value.okWide Tryd.prog W .any base t v := hval0
  have hW' := hW
  obtain ⟨p, q, hA0, hV, rfl, hfz, hnd⟩ := hW
  have hA : DataW.TrodAll enc Tryd.prog W 0 (fun _ => true) true Tryd.f5.params.toList args.toList ds p := hA0
  rw [Tryd.params5] at hA hval
  obtain ⟨v0, vs0, d0, ds0, p0, q0, hargs, rfl, rfl, h0, r0⟩ := trodAll_cons hA
  obtain ⟨rfl, rfl, rfl⟩ := trodAll_nil r0
  obtain rfl : args = #[v0] := by cases args; simp_all
  obtain ⟨rfl, rfl⟩ := trodVars_none hV
  have hvars := vars_of hL
  obtain ⟨cs0, rfl⟩ : ∃ cs, v0 = .agg cs := by have h := (hval 0 26 v0 rfl rfl); unfold Value.okWide at h; simp only [Tryd.underlying26] at h; obtain ⟨cs, h1, _⟩ := h; exact ⟨cs, h1⟩
  have k0 := h0
  have lt0 : ∀ x ∈ p0, x.block < W.heap.size := by obtain ⟨m, hm⟩ := k0; exact DataW.trod_lt m _ _ _ hm
  obtain ⟨fuel0, hf0⟩ := h0
  obtain ⟨s0, e0, g0⟩ := open_sheet hf0
  obtain rfl : cs0 = #[.slice s0.A0 s0.l0.length s0.c0, .slice s0.A1 s0.l1.length s0.c1, .int .i64 s0.a2, .int .i64 s0.a3, .slice s0.A4 s0.l4.length s0.c4] := by cases cs0; simp only [Value.cells] at e0; rw [e0]; rfl
  clear hA0 hval0
  refine (Hand.offs_any s0 W hvars g0).mono fun e W' ⟨he, bel⟩ => ?_
  subst he
  exact ⟨_, rfl, _, _, _, [], _, [], hW', trodAll_mk1 (shut_bool Tryd.underlying4 _), (trodAll_cons_mk (Below.trod laidOutD (by kernel_rfl) (of_decide_eq_true (by kernel_rfl)) k0 bel lt0) trodAll_mk0), rfl, bel.frame _, fun h => by cases h⟩
theorem row_holds : Rows.TallyOffsSaid :=
  OpenClaim.holds_of_wide 5 Tryd.f5 rfl rfl rfl rfl rfl rfl rfl ⟨rfl, rfl, rfl, rfl, rfl⟩ rfl rfl rfl rfl rfl (by kernel_rfl) Tryd.func5 (by kernel_rfl)
    (of_decide_eq_true (by kernel_rfl)) (by unfold Func.isWrapper; first | (rw [if_pos (by decide +kernel)]; kernel_rfl) | (rw [if_neg (by decide +kernel)]; exact ⟨rfl, rfl⟩))
    (fun os started H enc _ => lifted os started H enc)
theorem proved : Rows.TallyOffsCardSaid :=
  Claim7.holds_tied_plain_at .later [] [.data, .data] true (true, "5e491ff97e15d9dbeef380c8e43fae43eecb164c938dba20fa664fd619ea33c3") false
    row_holds (fun _ h => by cases h) (by kernel_rfl) (fun _ h => by cases h) tallyOffs_row_tie rfl ⟨rfl, rfl⟩ (by kernel_rfl) rfl
    (fun f fn hf hfn => by
      obtain rfl : f = 5 := Option.some.inj ((show Tryd.prog.funcNamed "peavey/peaveylaw11.TallyOffs" = some 5 by kernel_rfl).symm.trans hf) |>.symm
      obtain rfl : fn = Tryd.f5 := (Option.some.inj (Tryd.func5.symm.trans hfn)).symm
      exact ⟨by kernel_rfl, fun j t ht => by
        rw [Tryd.params5] at ht
        exact match j, ht with
          | 0, ht => (Option.some.inj ht) ▸ (show Tryd.prog.wantsStandIn 26 = false by kernel_rfl)
          | _ + 1, ht => by simp at ht⟩)
    (by kernel_rfl)
end Go.Proofs.YtcbhnhoicecnnaaDoor.tallyOffs
namespace Go.Proofs.YtcbhnhoicecnnaaDoor
theorem tallyOffsCard_holds : Rows.TallyOffsCardSaid := tallyOffs.proved
end Go.Proofs.YtcbhnhoicecnnaaDoor

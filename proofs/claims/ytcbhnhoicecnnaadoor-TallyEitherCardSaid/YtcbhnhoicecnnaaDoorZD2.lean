/- Texts of the session's, joined: what HWorks, HRow names of them, in build order (joined and cut by a program of the session's). -/
import Derived.Test.YtcbhnhoicecnnaaDoorZD1
import Derived.Deep.DeepCutAuto
import Derived.Deep.LoopGhost
import Derived.Deep.RegionHeld3
import Derived.Deep.RegionLawGrows
import Derived.Great.BuildSlice
import Derived.Laws.AppendOwn
import Derived.Laws.EntriesVeiled
import Derived.Laws.StructEq
import Derived.LoopIn
import Derived.LoopNIn
import Derived.OrdersIn
import Derived.Outline
import Derived.OwnWalkIn
import Derived.RangeFuncBound
import Derived.RangeFuncCalls
import Derived.RangeFuncLeaves
import Derived.RangeFuncNested
import Derived.Shelf.Abstract
import Derived.Shelf.RegionOpen
import Derived.StillTailTactics
import Derived.TacticsInMore
import Derived.WideLaws
set_option linter.unusedVariables false
set_option linter.unusedSimpArgs false
namespace Go.Proofs.YtcbhnhoicecnnaaDoor.Hand
set_option linter.unusedVariables false
set_option linter.unusedSimpArgs false
open Go.RowKit Go.Maps Go.Proofs.YtcbhnhoicecnnaaDoorW.PrintWords Go.Proofs.YtcbhnhoicecnnaaDoorW.PrintLast Go.Proofs.YtcbhnhoicecnnaaDoorW.PrintMore Go.Proofs.YtcbhnhoicecnnaaDoor.PrK
structure ShM where
  A0 : Option Addr
  c0 : Nat
  l0 : List S24
  A1 : Option Addr
  c1 : Nat
  l1 : List S24
  a2 : Int
  a3 : Int
  A4 : Option Addr
  c4 : Nat
  l4 : List S24
def ShM.cells (s : ShM) : List Value := [.slice s.A0 s.l0.length s.c0, .slice s.A1 s.l1.length s.c1, .int .i64 s.a2, .int .i64 s.a3, .slice s.A4 s.l4.length s.c4]
structure ShR (W : World) (s : ShM) : Prop where
  r0 : Kd.C k24 W s.A0 s.l0.length s.l0
  h0 : s.l0.length ≤ s.c0
  r1 : Kd.C k24 W s.A1 s.l1.length s.l1
  h1 : s.l1.length ≤ s.c1
  r4 : Kd.C k24 W s.A4 s.l4.length s.l4
  h4 : s.l4.length ≤ s.c4
theorem ShR.below {W W' : World} {s : ShM} (h : ShR W s) (hb : Below W.heap.size W W') : ShR W' s :=
  ⟨Kd.C_below h.r0 hb, h.h0, Kd.C_below h.r1 hb, h.h1, Kd.C_below h.r4 hb, h.h4⟩
def pr (x : S24) : Int × Int := (x.f0, x.f1)
def shL (l0 l1 : List S24) (a2 a3 : Int) (l4 : List S24) : Sh := ⟨l0.map pr, l1.map pr, (a2, a3), l4.map pr⟩
def ShM.sh (s : ShM) : Sh := shL s.l0 s.l1 s.a2 s.a3 s.l4
theorem rg_map (l : List S24) (i : Nat) : rgAt (l.map pr) i = pr (rd_T24 l (i : Int)) := by
  unfold rgAt rd_T24
  rw [List.getD_eq_getElem?_getD, List.getD_eq_getElem?_getD, List.getElem?_map, Int.toNat_natCast]
  cases l[i]? <;> rfl
theorem at_rg {W : World} {A : Option Addr} {l : List S24} (h : Kd.C k24 W A l.length l) {i : Nat} (hi : i < l.length) :
    ∃ ad, A = some ad ∧ W.cell? (ad.add (i * 2)) = some (.int .i64 (rgAt (l.map pr) i).1) ∧ W.cell? ⟨(ad.add (i * 2)).block, (ad.add (i * 2)).off + 1, none⟩ = some (.int .i64 (rgAt (l.map pr) i).2) := by
  obtain ⟨ad, e, h1, h2⟩ := at_T24 h (i : Int) (by omega) (by omega)
  rw [rg_map]
  rw [Int.toNat_natCast] at h1 h2
  exact ⟨ad, e, h1, h2⟩
abbrev ShM.Ok (s : ShM) : Prop := s.sh.Ok
theorem ShM.len0 (s : ShM) : s.sh.n = s.l0.length := by simp [ShM.sh, shL, Sh.n]
theorem ShM.len1 (s : ShM) : s.sh.m = s.l1.length := by simp [ShM.sh, shL, Sh.m]
theorem ShM.len4 (s : ShM) : s.sh.cs.length = s.l4.length := by simp [ShM.sh, shL]
def bookC (s : ShM) (tv fv : Value) : Array Value := #[.slice s.A0 s.l0.length s.c0, .slice s.A1 s.l1.length s.c1, .int .i64 s.a2, .int .i64 s.a3, .slice s.A4 s.l4.length s.c4, tv, fv]
structure BookAt (W : World) (B Tb : Nat) (s : ShM) (fv : Value) (t : List Int) : Prop where
  box : W.heap[B]? = some (.cells (bookC s (.slice (some ⟨Tb, 0, none⟩) t.length t.length) fv) 79 (0, 0))
  tab : W.heap[Tb]? = some (.cells (nums .i64 t).toArray 2 (0, 0))
  ne : Tb ≠ B
  rd : ShR W s
section
variable {W W' : World} {B Tb : Nat} {s : ShM} {fv : Value} {t : List Int}
theorem BookAt.b0 (h : BookAt W B Tb s fv t) : W.cell? ⟨B, 0, none⟩ = some (.slice s.A0 s.l0.length s.c0) := by rw [cell_of_row W _ _ _ _ _ h.box]; rfl
theorem BookAt.b1 (h : BookAt W B Tb s fv t) : W.cell? ⟨B, 1, none⟩ = some (.slice s.A1 s.l1.length s.c1) := by rw [cell_of_row W _ _ _ _ _ h.box]; rfl
theorem BookAt.b2 (h : BookAt W B Tb s fv t) : W.cell? ⟨B, 2, none⟩ = some (.int .i64 s.a2) := by rw [cell_of_row W _ _ _ _ _ h.box]; rfl
theorem BookAt.b3 (h : BookAt W B Tb s fv t) : W.cell? ⟨B, 3, none⟩ = some (.int .i64 s.a3) := by rw [cell_of_row W _ _ _ _ _ h.box]; rfl
theorem BookAt.b4 (h : BookAt W B Tb s fv t) : W.cell? ⟨B, 4, none⟩ = some (.slice s.A4 s.l4.length s.c4) := by rw [cell_of_row W _ _ _ _ _ h.box]; rfl
theorem BookAt.b5 (h : BookAt W B Tb s fv t) : W.cell? ⟨B, 5, none⟩ = some (.slice (some ⟨Tb, 0, none⟩) t.length t.length) := by rw [cell_of_row W _ _ _ _ _ h.box]; rfl
theorem BookAt.b6 (h : BookAt W B Tb s fv t) : W.cell? ⟨B, 6, none⟩ = some fv := by rw [cell_of_row W _ _ _ _ _ h.box]; rfl
theorem BookAt.tb (h : BookAt W B Tb s fv t) {i : Nat} (hi : i < t.length) : W.cell? ⟨Tb, i, none⟩ = some (.int .i64 (tat t i)) := by
  rw [cell_of_row W _ _ _ _ _ h.tab]
  simp [nums, tat, hi, List.getD_eq_getElem?_getD]
theorem BookAt.free (h : BookAt W B Tb s fv t) (o : Nat) : W.frozen? ⟨B, o, none⟩ = false := frozen_of_row W _ o _ _ h.box
theorem BookAt.freeT (h : BookAt W B Tb s fv t) (o : Nat) : W.frozen? ⟨Tb, o, none⟩ = false := frozen_of_row W _ o _ _ h.tab
theorem BookAt.below (h : BookAt W B Tb s fv t) (hb : Below W.heap.size W W') : BookAt W' B Tb s fv t :=
  ⟨(hb.block B (heap_lt h.box)).trans h.box, (hb.block Tb (heap_lt h.tab)).trans h.tab, h.ne, h.rd.below hb⟩
end
def cellsN (n : Nat) (f : Nat → Int) : Array Value := ((List.range n).map fun j => Value.int .i64 (f j)).toArray
theorem cellsN_size (n : Nat) (f : Nat → Int) : (cellsN n f).size = n := by simp [cellsN]
theorem cellsN_get {n : Nat} (f : Nat → Int) (j : Nat) (h : j < n) : (cellsN n f)[j]? = some (.int .i64 (f j)) := by
  simp [cellsN, List.getElem?_range h, h]
theorem cellsN_one (n : Nat) (f : Nat → Int) : (cellsN n f).all (·.oneCell') = true := by
  simp [cellsN, Value.oneCell']
theorem cellsN_set (n : Nat) (f : Nat → Int) (i : Nat) (v : Int) : (cellsN n f).setIfInBounds i (.int .i64 v) = cellsN n (upd f i v) := by
  apply Array.ext_getElem?
  intro j
  by_cases hj : j < n
  · rw [cellsN_get _ _ hj, Array.getElem?_setIfInBounds]
    by_cases e : i = j
    · subst e
      rw [if_pos rfl, if_pos (by rw [cellsN_size]; exact hj)]
      simp [upd]
    · rw [if_neg e, cellsN_get _ _ hj]
      simp [upd, Ne.symm e]
  · have h1 : (cellsN n (upd f i v)).size ≤ j := by rw [cellsN_size]; omega
    have h2 : ((cellsN n f).setIfInBounds i (.int .i64 v)).size ≤ j := by rw [Array.size_setIfInBounds, cellsN_size]; omega
    rw [Array.getElem?_eq_none h1, Array.getElem?_eq_none h2]
theorem zeros_rep (n : Nat) : Array.replicate n (Value.int .i64 0) = cellsN n fun _ => 0 := by
  apply Array.ext_getElem?
  intro j
  by_cases h : j < n
  · rw [cellsN_get _ _ h]; simp [h]
  · rw [Array.getElem?_eq_none (by simp; omega), Array.getElem?_eq_none (by rw [cellsN_size]; omega)]
theorem zero_sums : (Tryd.prog.info? 100).map (fun i => (i.zero, i.size)) = some (some (.agg (cellsN 5 fun _ => 0)), 5) := by kernel_rfl
theorem sums_key : Tryd.prog.plainKey 2 = true := by kernel_rfl
theorem sums_cells : Tryd.prog.cellsOf 2 = 1 := by kernel_rfl
theorem sums_under : Tryd.prog.underlying 100 = some (.array 5 2) := by kernel_rfl
theorem sums_built : Tryd.prog.built 100 [] = some (cellsN 5 fun _ => 0) := by kernel_rfl
def ownK (m : Nat) (T : Nat → Int) : Nat → Nat → Int
  | 0 => fun _ => 0
  | k + 1 => upd (ownK m T k) (k / m) (ownK m T k (k / m) + T k)
theorem ownK_bound {m : Nat} {T : Nat → Int} {n : Nat} (hT : ∀ i, i < n → 0 ≤ T i ∧ T i ≤ 1000) : ∀ k, k ≤ n → ∀ o, 0 ≤ ownK m T k o ∧ ownK m T k o ≤ 1000 * (k : Int)
  | 0, _, o => by simp [ownK]
  | k + 1, hk, o => by
    have h1 := ownK_bound (m := m) hT k (by omega)
    have h2 := hT k (by omega)
    rw [ownK]
    unfold upd
    split
    · have := h1 (k / m); omega
    · have := h1 o; omega
theorem ownK_is {m : Nat} (hm : 1 ≤ m) (T : Nat → Int) : ∀ n k, k ≤ m → ∀ o, ownK m T (n * m + k) o = if o < n then ownS m T o else if o = n then sumR k fun p => T (o * m + p) else 0
  | 0, 0, _, o => by
    rw [Nat.zero_mul, ownK, if_neg (by omega)]
    split <;> rfl
  | n + 1, 0, _, o => by
    have h := ownK_is hm T n m (Nat.le_refl _) o
    rw [show (n + 1) * m + 0 = n * m + m by rw [Nat.succ_mul]; omega, h]
    by_cases h1 : o < n
    · rw [if_pos h1, if_pos (by omega)]
    · by_cases h2 : o = n
      · subst h2; rw [if_neg h1, if_pos rfl, if_pos (by omega)]; rfl
      · rw [if_neg h1, if_neg h2, if_neg (by omega)]
        split <;> rfl
  | n, k + 1, hk, o => by
    have h := ownK_is hm T n k (by omega)
    have hd : (n * m + k) / m = n := by rw [Nat.add_comm, Nat.add_mul_div_right _ _ (by omega), Nat.div_eq_of_lt (by omega), Nat.zero_add]
    rw [← Nat.add_assoc, ownK, hd, h n, if_neg (by omega), if_pos rfl]
    unfold upd
    by_cases e : o = n
    · subst e
      rw [if_pos rfl, if_neg (by omega), if_pos rfl, sumR_succ]
    · rw [if_neg e, h o]
      by_cases h1 : o < n
      · rw [if_pos h1, if_pos h1]
      · rw [if_neg h1, if_neg h1, if_neg e, if_neg e]
theorem ownK_end {m n : Nat} (hm : 1 ≤ m) (T : Nat → Int) (o : Nat) : ownK m T (n * m) o = if o < n then ownS m T o else 0 := by
  have h := ownK_is hm T n 0 (Nat.zero_le _) o
  rw [Nat.add_zero] at h
  rw [h]
  split
  · rfl
  · split <;> rfl
def SumsAt (W : World) (B : Nat) (w : World) (f : Nat → Int) : Prop :=
  W.heap[B]? = some (.cells (cellsN 5 fun _ => 0) 100 (0, 0)) ∧ W.heap[B + 1]? = some (.cells (cellsN 5 f) 100 (0, 0)) ∧ Below B w W
set_option maxHeartbeats 2000000 in
set_option maxRecDepth 100000 in
theorem owners_any (B Tb : Nat) (s : ShM) (fv : Value) (t : List Int) (w : World) (h : BookAt w B Tb s fv t) (hm : 1 ≤ s.l1.length) (hq : ∀ i, i < t.length → i / s.l1.length < 5) (ht : t.length ≤ 25) (hT : ∀ i, i < t.length → 0 ≤ tat t i ∧ tat t i ≤ 1000) :
    Calls Tryd.prog 74 #[.pointer (some ⟨B, 0, none⟩)] w fun e w' => e = .returned (.agg (cellsN 5 (ownK s.l1.length (tat t) t.length))) ∧ Below w.heap.size w w' := by
  obtain ⟨hz, hs⟩ := zero_of_info zero_sums
  have HS := Lib.hid hs
  have HB := Lib.hid h
  have HQ := Lib.hid hq
  have HT := Lib.hid hT
  clear hs h hq hT
  obtain ⟨W, hW⟩ : ∃ W, W = (w.alloc (.cells (cellsN 5 fun _ => 0) 100)).alloc (.cells (cellsN 5 fun _ => 0) 100) := ⟨_, rfl⟩
  have hh1 : W.heap[w.heap.size + 1]? = some (.cells (cellsN 5 fun _ => 0) 100 (0, 0)) := by
    rw [hW]
    have := heap_alloc_last (w.alloc (.cells (cellsN 5 fun _ => 0) 100)) (.cells (cellsN 5 fun _ => 0) 100)
    rw [World.size_alloc] at this
    exact this
  have hh0 : W.heap[w.heap.size]? = some (.cells (cellsN 5 fun _ => 0) 100 (0, 0)) := by rw [hW]; exact heap_past (heap_alloc_last w _) _
  have hbW : Below w.heap.size w W := by rw [hW]; exact ((Below.refl _ _).alloc (Nat.le_refl _) _).alloc (by simp) _
  have hcl : ∀ ty, (Builtin.clear_ #[27] ty #[.slice (some ⟨w.heap.size + 1, 0, none⟩) 5 5]).run Tryd.prog W = .ok (.tuple #[]) (W.setRow (w.heap.size + 1) (cellsN 5 fun _ => 0)) := fun ty => by
    have := run_clear_row (P := Tryd.prog) W 27 2 ty (.int .i64 0) Tryd.underlying27 (fun _ => by kernel_rfl) rfl rfl (w.heap.size + 1) 5 5 (by omega) _ _ hh1 (cellsN_size _ _)
    rw [zeros_rep] at this
    exact this
  rw [setRow_same W _ _ _ _ hh1] at hcl
  have HW := Lib.hid (show SumsAt W w.heap.size w (ownK s.l1.length (tat t) 0) from ⟨hh0, hh1, hbW⟩)
  have HSZ := Lib.hid hbW
  rw [hW] at hcl
  clear hh0 hh1 hbW
  have c5 := HB.out.b5
  have d5 := (HSZ.out.cell (cell_size c5)).trans c5
  rw [hW] at d5
  clear c5
  go_enter Tryd.func74, Tryd.ntmps74
  go_wp2_with fail
  rw [← hW]
  clear hcl d5 hz hW
  go_loopw [12] (fun i wr => ∃ k : Nat, k ≤ t.length ∧ i = .int .i64 k ∧ Hid (SumsAt wr w.heap.size w (ownK s.l1.length (tat t) k))) (fun i _ => t.length - (intOf i).toNat)
  case atStart => exact ⟨0, Nat.zero_le _, rfl, HW⟩
  case round =>
    obtain ⟨k, hk, rfl, HR⟩ := hrel
    have HBr := Lib.hid (HB.out.below HR.out.2.2)
    by_cases hlt : k < t.length
    · have hlt' : (k : Int) < (t.length : Int) := by omega
      have p0 : (0 : Int) ≤ (k : Int) := by omega
      have c0 := HBr.out.tb hlt
      have c1 := HBr.out.b1
      have c5 := HBr.out.b5
      obtain ⟨q, hq⟩ : ∃ q, q = k / s.l1.length := ⟨_, rfl⟩
      have hq5 : q < 5 := by rw [hq]; exact HQ.out k hlt
      have hdv : Int.tdiv (k : Int) (s.l1.length : Int) = (q : Int) := by rw [hq]; exact (Int.ofNat_tdiv _ _).symm
      have hq5' : (q : Int) < 5 := by omega
      have hq0 : (0 : Int) ≤ (q : Int) := by omega
      have hm0 : ¬ ((s.l1.length : Int) = 0) := by omega
      obtain ⟨f, hf⟩ : ∃ f, f = ownK s.l1.length (tat t) k := ⟨_, rfl⟩
      have hbd := ownK_bound (m := s.l1.length) HT.out k hk q
      rw [← hf] at hbd HR
      have cS : wr.cell? ⟨w.heap.size + 1, q, none⟩ = some (.int .i64 (f q)) := by rw [cell_of_row wr _ q _ _ _ HR.out.2.1]; exact cellsN_get _ _ hq5
      have fS : wr.frozen? ⟨w.heap.size + 1, q, none⟩ = false := frozen_of_row wr _ q _ _ HR.out.2.1
      have hx := HT.out k hlt
      obtain ⟨x, hxe⟩ : ∃ x, x = tat t k := ⟨_, rfl⟩
      obtain ⟨y, hye⟩ : ∃ y, y = f q := ⟨_, rfl⟩
      rw [← hxe] at c0 hx
      rw [← hye] at cS hbd
      have HN : Hid (SumsAt (wr.setCell ⟨w.heap.size + 1, q, none⟩ (.int .i64 (y + x))) w.heap.size w (ownK s.l1.length (tat t) (k + 1))) := Lib.hid (by
        refine ⟨heap_far HR.out.1 (by simp) _, ?_, HR.out.2.2.setCell (by simp) _⟩
        have h1 := heap_setCell_same wr (w.heap.size + 1) q _ _ (.int .i64 (y + x)) HR.out.2.1
        rw [cellsN_set] at h1
        rw [h1, ownK, ← hf, ← hq, ← hye, hxe])
      obtain ⟨hx0, hx1⟩ := hx
      obtain ⟨hb0, hb1⟩ := hbd
      have hk25 : (k : Int) ≤ 25 := by omega
      clear hq hf hxe hye
      go_wp2
      go_roundw
      case rel => exact ⟨k + 1, by omega, by go_num, HN⟩
      case measure => simp [intOf]; omega
    · have hnl : ¬ ((k : Int) < (t.length : Int)) := by omega
      have hke : k = t.length := by omega
      have HK := Lib.hid hke
      clear hke
      have hh := HR.out.2.1
      have hw := setRow_heap wr w.heap.size _ (cellsN 5 (ownK s.l1.length (tat t) k)) _ _ HR.out.1
      go_wp2_with (first | (refine wpList_load_row rfl 100 (.tmp 3) rfl (w.heap.size + 1) rfl 100 (cellsN 5 (ownK s.l1.length (tat t) k)) (0, 0) _ hh sums_under rfl HS.out ?_) | (refine wpList_store_rowTo rfl 100 (.tmp 2) (.tmp 31) rfl rfl w.heap.size (cellsN 5 (ownK s.l1.length (tat t) k)) rfl rfl 100 _ HR.out.1 HS.out rfl (cellsN_one _ _) ?_))
      refine bodyPost_ret (v := .agg (cellsN 5 (ownK s.l1.length (tat t) k))) ?_ rfl ⟨?_, ?_⟩
      · exact results_cell_row Tryd.results74 _ _ w.heap.size 100 (cellsN 5 (ownK s.l1.length (tat t) k)) (0, 0) _ rfl hw sums_under rfl HS.out
      · rw [HK.out]
      · exact below_setRow HR.out.2.2 (Nat.le_refl _) _
theorem sumR_bound {f : Nat → Int} {n : Nat} (h : ∀ i, i < n → 0 ≤ f i ∧ f i ≤ 1000) : 0 ≤ sumR n f ∧ sumR n f ≤ 1000 * (n : Int) := by
  have h1 := sumR_nonneg (f := f) (n := n) fun i hi => (h i hi).1
  have h2 := sumR_le (f := f) (g := fun _ => 1000) (n := n) fun i hi => (h i hi).2
  rw [sumR_k] at h2
  omega
set_option maxHeartbeats 2000000 in
set_option maxRecDepth 100000 in
theorem pocket_any (B Tb : Nat) (s : ShM) (fv : Value) (t : List Int) (n p : Nat) (w : World) (h : BookAt w B Tb s fv t) (hp : p < s.l1.length) (hm5 : s.l1.length ≤ 5) (hn5 : n ≤ 5) (ht : t.length = n * s.l1.length) (hT : ∀ i, i < t.length → 0 ≤ tat t i ∧ tat t i ≤ 1000) :
    Calls Tryd.prog 75 #[.pointer (some ⟨B, 0, none⟩), .int .i64 (p : Int)] w fun e w' => e = .returned (.int .i64 (pckS n s.l1.length (tat t) p)) ∧ w' = w := by
  have HB := Lib.hid h
  have HT := Lib.hid hT
  have HTL := Lib.hid ht
  obtain ⟨m, hm⟩ : ∃ m, m = s.l1.length := ⟨_, rfl⟩
  have HM := Lib.hid hm
  rw [← hm] at hp hm5 HTL ⊢
  have hlt25 : t.length ≤ 25 := by
    rw [HTL.out]
    calc n * m ≤ 5 * 5 := Nat.mul_le_mul hn5 hm5
      _ = 25 := rfl
  have c1 := HB.out.b1
  have c5 := HB.out.b5
  rw [← hm] at c1
  clear h ht hT hm
  go_enter Tryd.func75, Tryd.ntmps75
  go_wp2_with fail
  go_loopw [5, 6] (fun v i wr => wr = w ∧ ∃ j : Nat, j ≤ n ∧ i = .int .i64 ((p + j * m : Nat) : Int) ∧ v = .int .i64 (sumR j fun o => tat t (o * m + p))) (fun _ i _ => 60 - (intOf i).toNat)
  case atStart => exact ⟨rfl, 0, Nat.zero_le _, by rw [Nat.zero_mul, Nat.add_zero], rfl⟩
  case round =>
    obtain ⟨rfl, j, hj, rfl, rfl⟩ := hrel
    have hcell : ∀ o, o < n → o * m + p < t.length := fun o ho => by
      rw [HTL.out]
      have : (o + 1) * m ≤ n * m := Nat.mul_le_mul_right _ ho
      rw [Nat.succ_mul] at this
      omega
    have hbd := sumR_bound (n := j) (f := fun o => tat t (o * m + p)) fun i hi => HT.out _ (hcell i (by omega))
    obtain ⟨y, hy⟩ : ∃ y, y = sumR j fun o => tat t (o * m + p) := ⟨_, rfl⟩
    have HY := Lib.hid hy
    rw [← hy] at hbd ⊢
    clear hy
    obtain ⟨q, hq⟩ : ∃ q, q = p + j * m := ⟨_, rfl⟩
    have HQ := Lib.hid hq
    by_cases hlt : j < n
    · have hql : q < t.length := by have := hcell j hlt; omega
      rw [← hq]
      have c0 := HB.out.tb hql
      have hx := HT.out q hql
      obtain ⟨x, hxe⟩ : ∃ x, x = tat t q := ⟨_, rfl⟩
      have HX := Lib.hid hxe
      rw [← hxe] at c0 hx
      have hql' : (q : Int) < (t.length : Int) := by omega
      have q0 : (0 : Int) ≤ (q : Int) := by omega
      have hx0 := hx.1
      have hx1 := hx.2
      have hb0 := hbd.1
      have hb1 := hbd.2
      have HN : Hid (y + x = sumR (j + 1) fun o => tat t (o * m + p)) := Lib.hid (by rw [sumR_succ, ← HY.out, HX.out, HQ.out, Nat.add_comm p])
      have HN2 : Hid (((q : Int) + (m : Int)) = ((p + (j + 1) * m : Nat) : Int)) := Lib.hid (by rw [HQ.out, Nat.succ_mul]; omega)
      clear hq hxe hbd hx hcell
      go_wp2
      go_roundw
      case rel => exact ⟨by trivial, j + 1, by omega, congrArg (Value.int .i64) HN2.out, congrArg (Value.int .i64) HN.out⟩
      case measure => simp [intOf]; omega
    · have hnl : ¬ ((q : Int) < (t.length : Int)) := by
        have : n * m ≤ j * m := Nat.mul_le_mul_right _ (by omega)
        have := HTL.out
        omega
      have hje : j = n := by omega
      have HJ := Lib.hid hje
      rw [← hq]
      clear hje hq hcell hbd
      go_wp2
      go_ret
      exact ⟨by rw [HY.out, HJ.out]; rfl, rfl⟩
end Go.Proofs.YtcbhnhoicecnnaaDoor.Hand
namespace Go.Proofs.YtcbhnhoicecnnaaDoor.PrK
open Go.RowKit Go.Proofs.YtcbhnhoicecnnaaDoorW.PrintWords Go.Proofs.YtcbhnhoicecnnaaDoorW.PrintLast Go.Proofs.YtcbhnhoicecnnaaDoorW.PrintMore Go.Proofs.YtcbhnhoicecnnaaDoor.Hand
attribute [local go_sem] max2_int min2_int max_two min_two max_three min_three max_four min_four
set_option linter.unusedVariables false
set_option linter.unusedSimpArgs false
def tally_least_int64.f (a0 : Int) (a1 : Int) : Option (Int) := if a1 < a0 then (some a1) else (some a0)
set_option maxHeartbeats 8000000 in
set_option maxRecDepth 100000 in
theorem tally_least_int64.calls (a0 : Int) (a1 : Int) (r : Int) (w : World) (h : tally_least_int64.f a0 a1 = some r) :
    Calls Tryd.prog 78 #[.int .i64 a0, .int .i64 a1] w fun e w' => e = .returned (.int .i64 r) ∧ Drawn0 w w' := by
  have H : (if a1 < a0 then (some a1) else (some a0)) = some r := h
  clear h
  by_cases c3 : a1 < a0
  · rw [if_pos c3] at H
    have c3b0 : decide (a1 < a0) = true := decide_eq_true c3
    clear c3
    obtain rfl := Option.some.inj H
    go_enter Tryd.func78, Tryd.ntmps78
    go_wp2
    go_ret
    exact ⟨by first | rfl | (simp; done) | (simp [*]; done), by repeat (first | exact Drawn0.refl _ | apply Drawn0.step)⟩
  · rw [if_neg c3] at H
    have c3b0 : decide (a1 < a0) = false := decide_eq_false c3
    clear c3
    obtain rfl := Option.some.inj H
    go_enter Tryd.func78, Tryd.ntmps78
    go_wp2
    go_ret
    exact ⟨by first | rfl | (simp; done) | (simp [*]; done), by repeat (first | exact Drawn0.refl _ | apply Drawn0.step)⟩
def tally_beside.f (a0 : Int) (a1_0 : Int) (a1_1 : Int) : Option (Int) := some (mx (mx 0 (wrap64 (a1_0 - a0))) (wrap64 (a0 - a1_1)))
set_option maxHeartbeats 8000000 in
set_option maxRecDepth 100000 in
theorem tally_beside.calls (a0 : Int) (a1_0 : Int) (a1_1 : Int) (r : Int) (w : World) (h : tally_beside.f a0 a1_0 a1_1 = some r) :
    Calls Tryd.prog 73 #[.int .i64 a0, .agg #[.int .i64 a1_0, .int .i64 a1_1]] w fun e w' => e = .returned (.int .i64 r) ∧ Below w.heap.size w w' := by
  have hu24 := Tryd.underlying24
  have HB := Aside0.mk (Below.refl w.heap.size w)
  have H : (some (mx (mx 0 (wrap64 (a1_0 - a0))) (wrap64 (a0 - a1_1)))) = some r := h
  clear h
  obtain ⟨ji3, hji3⟩ : ∃ j_ : Int, (mx 0 (wrap64 (a1_0 - a0))) = j_ := ⟨_, rfl⟩
  replace H : (some (mx (ji3) (wrap64 (a0 - a1_1)))) = some r := by first | (rw [hji3] at H; exact H) | (simp only [hji3] at H ⊢; exact H)
  (try (have hji3l : 0 ≤ ji3 := by (rw [← hji3]; unfold mx; (repeat' split) <;> omega)))
  (try (have hji3m : 0 ≤ ji3 := by omega))
  have hji3_ : (if 0 < (wrap64 (a1_0 - a0)) then (wrap64 (a1_0 - a0)) else 0) = ji3 := hji3
  obtain ⟨ji4, hji4⟩ : ∃ j_ : Int, (mx (ji3) (wrap64 (a0 - a1_1))) = j_ := ⟨_, rfl⟩
  replace H : (some ji4) = some r := by first | (rw [hji4] at H; exact H) | (simp only [hji4] at H ⊢; exact H)
  have hji4_ : (if (ji3) < (wrap64 (a0 - a1_1)) then (wrap64 (a0 - a1_1)) else (ji3)) = ji4 := hji4
  obtain rfl := Option.some.inj H
  go_enter Tryd.func73, Tryd.ntmps73
  go_wp2_with (first | ((with_reducible refine gate_dst (N := 3) rfl ?_); refine box_event ?hg (N := 3) ?hd (cs := #[.int .i64 a1_0, .int .i64 a1_1]) (t := 24) ?hr ?_; (case hd => rfl); (case hg => rfl); (case hr => first | (go_simp; done) | (go_simp; rfl)); intro gb101 hg w5 hbox hb; have n0_ := Aside0.mk (below_step (by repeat (first | (with_reducible first | exact HB.out | apply below_alloc | apply pw_below_drewN | apply below_drew1) | exact HB.out)) hb); have n1_ := Aside0.mk (hbox); have n2_ := Aside0.mk ((by rw [hg]; exact (below_size (by repeat (first | (with_reducible first | exact HB.out | apply below_alloc | apply pw_below_drewN | apply below_drew1) | exact HB.out))) : w.heap.size ≤ gb101)); have n3_ := Aside0.mk ((by rw [hg]; exact (below_size (by repeat (first | (with_reducible first | exact HB.out | apply below_alloc | apply pw_below_drewN | apply below_drew1) | exact HB.out))) : w.heap.size ≤ gb101)); clear HB; have HB := n0_; have BK101 := n1_; have GW101 := n2_; have GE101 := n3_; clear n0_ n1_ n2_ n3_; clear hb hbox hg; have hcz6_0 : w5.cell? ⟨gb101, 0, none⟩ = some (.int .i64 a1_0) := (blk_cell BK101.out 0).trans rfl; have hcz6_1 : w5.cell? ⟨gb101, 1, none⟩ = some (.int .i64 a1_1) := (blk_cell BK101.out 1).trans rfl; have hfz6_0 := blk_frozen BK101.out 0; have hfz6_1 := blk_frozen BK101.out 1))
  go_ret
  exact ⟨by first | rfl | (simp [errW_none, errW_some] <;> rfl) | (simp only [← hji3, ← hji4]; first | rfl | (simp [errW_none, errW_some] <;> rfl)) | (simp [*, errW_none, errW_some] <;> rfl), by repeat (first | (with_reducible first | exact HB.out | apply below_alloc | apply pw_below_drewN | apply below_drew1 | refine below_set ?_ GE101.out) | exact HB.out)⟩
def peaveyref11_isRange.f (a0_0 : Int) (a0_1 : Int) : Option (Bool) := if a0_0 ≥ 0 then (if a0_0 ≤ a0_1 then (some (decide (a0_1 ≤ 1000))) else (some false)) else (some false)
set_option maxHeartbeats 8000000 in
set_option maxRecDepth 100000 in
theorem peaveyref11_isRange.calls (a0_0 : Int) (a0_1 : Int) (r : Bool) (w : World) (h : peaveyref11_isRange.f a0_0 a0_1 = some r) :
    Calls Tryd.prog 56 #[.agg #[.int .i64 a0_0, .int .i64 a0_1]] w fun e w' => e = .returned (.bool r) ∧ Below w.heap.size w w' := by
  have hu24 := Tryd.underlying24
  have HB := Aside0.mk (Below.refl w.heap.size w)
  have H : (if a0_0 ≥ 0 then (if a0_0 ≤ a0_1 then (some (decide (a0_1 ≤ 1000))) else (some false)) else (some false)) = some r := h
  clear h
  by_cases c2 : a0_0 ≥ 0
  · rw [if_pos c2] at H
    have c2b0 : decide (0 ≤ a0_0) = true := decide_eq_true c2
    clear c2
    by_cases c3 : a0_0 ≤ a0_1
    · rw [if_pos c3] at H
      have c3b0 : decide (a0_0 ≤ a0_1) = true := decide_eq_true c3
      clear c3
      obtain rfl := Option.some.inj H
      go_enter Tryd.func56, Tryd.ntmps56
      go_wp2_with (first | ((with_reducible refine gate_dst (N := 1) rfl ?_); refine box_event ?hg (N := 1) ?hd (cs := #[.int .i64 a0_0, .int .i64 a0_1]) (t := 24) ?hr ?_; (case hd => rfl); (case hg => rfl); (case hr => first | (go_simp; done) | (go_simp; rfl)); intro gb102 hg w4 hbox hb; have n0_ := Aside0.mk (below_step (by repeat (first | (with_reducible first | exact HB.out | apply below_alloc | apply pw_below_drewN | apply below_drew1) | exact HB.out)) hb); have n1_ := Aside0.mk (hbox); have n2_ := Aside0.mk ((by rw [hg]; exact (below_size (by repeat (first | (with_reducible first | exact HB.out | apply below_alloc | apply pw_below_drewN | apply below_drew1) | exact HB.out))) : w.heap.size ≤ gb102)); have n3_ := Aside0.mk ((by rw [hg]; exact (below_size (by repeat (first | (with_reducible first | exact HB.out | apply below_alloc | apply pw_below_drewN | apply below_drew1) | exact HB.out))) : w.heap.size ≤ gb102)); clear HB; have HB := n0_; have BK102 := n1_; have GW102 := n2_; have GE102 := n3_; clear n0_ n1_ n2_ n3_; clear hb hbox hg; have hcz5_0 : w4.cell? ⟨gb102, 0, none⟩ = some (.int .i64 a0_0) := (blk_cell BK102.out 0).trans rfl; have hcz5_1 : w4.cell? ⟨gb102, 1, none⟩ = some (.int .i64 a0_1) := (blk_cell BK102.out 1).trans rfl; have hfz5_0 := blk_frozen BK102.out 0; have hfz5_1 := blk_frozen BK102.out 1))
      go_ret
      exact ⟨by first | rfl | (simp [errW_none, errW_some] <;> rfl) | (simp [*, errW_none, errW_some] <;> rfl), by repeat (first | (with_reducible first | exact HB.out | apply below_alloc | apply pw_below_drewN | apply below_drew1 | refine below_set ?_ GE102.out) | exact HB.out)⟩
    · rw [if_neg c3] at H
      have c3b0 : decide (a0_0 ≤ a0_1) = false := decide_eq_false c3
      clear c3
      obtain rfl := Option.some.inj H
      go_enter Tryd.func56, Tryd.ntmps56
      go_wp2_with (first | ((with_reducible refine gate_dst (N := 1) rfl ?_); refine box_event ?hg (N := 1) ?hd (cs := #[.int .i64 a0_0, .int .i64 a0_1]) (t := 24) ?hr ?_; (case hd => rfl); (case hg => rfl); (case hr => first | (go_simp; done) | (go_simp; rfl)); intro gb102 hg w6 hbox hb; have n0_ := Aside0.mk (below_step (by repeat (first | (with_reducible first | exact HB.out | apply below_alloc | apply pw_below_drewN | apply below_drew1) | exact HB.out)) hb); have n1_ := Aside0.mk (hbox); have n2_ := Aside0.mk ((by rw [hg]; exact (below_size (by repeat (first | (with_reducible first | exact HB.out | apply below_alloc | apply pw_below_drewN | apply below_drew1) | exact HB.out))) : w.heap.size ≤ gb102)); have n3_ := Aside0.mk ((by rw [hg]; exact (below_size (by repeat (first | (with_reducible first | exact HB.out | apply below_alloc | apply pw_below_drewN | apply below_drew1) | exact HB.out))) : w.heap.size ≤ gb102)); clear HB; have HB := n0_; have BK102 := n1_; have GW102 := n2_; have GE102 := n3_; clear n0_ n1_ n2_ n3_; clear hb hbox hg; have hcz7_0 : w6.cell? ⟨gb102, 0, none⟩ = some (.int .i64 a0_0) := (blk_cell BK102.out 0).trans rfl; have hcz7_1 : w6.cell? ⟨gb102, 1, none⟩ = some (.int .i64 a0_1) := (blk_cell BK102.out 1).trans rfl; have hfz7_0 := blk_frozen BK102.out 0; have hfz7_1 := blk_frozen BK102.out 1))
      go_ret
      exact ⟨by first | rfl | (simp [errW_none, errW_some] <;> rfl) | (simp [*, errW_none, errW_some] <;> rfl), by repeat (first | (with_reducible first | exact HB.out | apply below_alloc | apply pw_below_drewN | apply below_drew1 | refine below_set ?_ GE102.out) | exact HB.out)⟩
  · rw [if_neg c2] at H
    have c2b0 : decide (0 ≤ a0_0) = false := decide_eq_false c2
    clear c2
    obtain rfl := Option.some.inj H
    go_enter Tryd.func56, Tryd.ntmps56
    go_wp2_with (first | ((with_reducible refine gate_dst (N := 1) rfl ?_); refine box_event ?hg (N := 1) ?hd (cs := #[.int .i64 a0_0, .int .i64 a0_1]) (t := 24) ?hr ?_; (case hd => rfl); (case hg => rfl); (case hr => first | (go_simp; done) | (go_simp; rfl)); intro gb102 hg w8 hbox hb; have n0_ := Aside0.mk (below_step (by repeat (first | (with_reducible first | exact HB.out | apply below_alloc | apply pw_below_drewN | apply below_drew1) | exact HB.out)) hb); have n1_ := Aside0.mk (hbox); have n2_ := Aside0.mk ((by rw [hg]; exact (below_size (by repeat (first | (with_reducible first | exact HB.out | apply below_alloc | apply pw_below_drewN | apply below_drew1) | exact HB.out))) : w.heap.size ≤ gb102)); have n3_ := Aside0.mk ((by rw [hg]; exact (below_size (by repeat (first | (with_reducible first | exact HB.out | apply below_alloc | apply pw_below_drewN | apply below_drew1) | exact HB.out))) : w.heap.size ≤ gb102)); clear HB; have HB := n0_; have BK102 := n1_; have GW102 := n2_; have GE102 := n3_; clear n0_ n1_ n2_ n3_; clear hb hbox hg; have hcz9_0 : w8.cell? ⟨gb102, 0, none⟩ = some (.int .i64 a0_0) := (blk_cell BK102.out 0).trans rfl; have hcz9_1 : w8.cell? ⟨gb102, 1, none⟩ = some (.int .i64 a0_1) := (blk_cell BK102.out 1).trans rfl; have hfz9_0 := blk_frozen BK102.out 0; have hfz9_1 := blk_frozen BK102.out 1))
    go_ret
    exact ⟨by first | rfl | (simp [errW_none, errW_some] <;> rfl) | (simp [*, errW_none, errW_some] <;> rfl), by repeat (first | (with_reducible first | exact HB.out | apply below_alloc | apply pw_below_drewN | apply below_drew1 | refine below_set ?_ GE102.out) | exact HB.out)⟩
def peaveyref11_areRanges.l0 : Nat → List (S24) → Int → Option (Bool)
  | 0, _, _ => none
  | k + 1, x0, x3 => if x3 < (x0.length : Int) then (if 0 ≤ x3 then ((peaveyref11_isRange.f ((rd_T24 x0 x3).f0) ((rd_T24 x0 x3).f1)).bind fun t104 => (if t104 = true then (peaveyref11_areRanges.l0 k x0 (wrap64 (x3 + 1))) else (some false))) else (none)) else (some true)
def peaveyref11_areRanges.f (k : Nat) (l0 : List (S24)) : Option (Bool) := peaveyref11_areRanges.l0 k l0 0
set_option maxHeartbeats 8000000 in
set_option maxRecDepth 100000 in
theorem peaveyref11_areRanges.calls (k : Nat) (A0 : Option Addr) (c0 : Nat) (l0 : List (S24)) (r : Bool) (w : World) (hr0 : Kd.C k24 w A0 l0.length l0) (hc0 : l0.length ≤ c0) (h : peaveyref11_areRanges.f k l0 = some r) :
    Calls Tryd.prog 55 #[.slice A0 l0.length c0] w fun e w' => e = .returned (.bool r) ∧ Below w.heap.size w w' := by
  have hu24 := Tryd.underlying24
  have HR0 := Aside0.mk hr0
  have HC0 := Aside0.mk hc0
  clear hr0 hc0
  have HB := Aside0.mk (Below.refl w.heap.size w)
  have H : (peaveyref11_areRanges.l0 k l0 0) = some r := h
  clear h
  have H' := Aside0.mk H
  clear H
  go_enter Tryd.func55, Tryd.ntmps55
  go_wp2
  go_loopg [3] k (fun kq v3 w' => ∃ (x3_1 : Int), v3 = .int .i64 x3_1 ∧ Aside0 (peaveyref11_areRanges.l0 kq l0 x3_1 = some r) ∧ Aside0 (kq ≤ k) ∧ Aside0 (Below w.heap.size w w'))
  case atStart => exact ⟨(0), (by first | rfl | (simp; done) | (simp [*]; done)), H', ⟨Nat.le_refl _⟩, ⟨by repeat (first | (with_reducible first | exact HB.out | apply below_alloc | apply pw_below_drewN | apply below_drew1) | exact HB.out)⟩⟩
  case round =>
    clear H'
    obtain ⟨x3_1, rfl, HA, HK1, HB⟩ := hrel
    cases gk with
    | zero => exact absurd HA.out (by simp [peaveyref11_areRanges.l0])
    | succ k1 =>
      have H := HA.out
      clear HA
      simp only [peaveyref11_areRanges.l0] at H
      by_cases c2 : x3_1 < (l0.length : Int)
      · rw [if_pos c2] at H
        have c2b0 : decide (x3_1 < (l0.length : Int)) = true := decide_eq_true c2
        clear c2
        by_cases c3 : 0 ≤ x3_1
        · rw [if_pos c3] at H
          have c3b0 : decide (0 ≤ x3_1) = true := decide_eq_true c3
          clear c3
          replace H := Option.bind_eq_some_iff.mp H
          obtain ⟨t104, A40, H⟩ := H
          replace H : (if t104 = true then (peaveyref11_areRanges.l0 k1 l0 (wrap64 (x3_1 + 1))) else (some false)) = some r := H
          have A4 := Aside0.mk A40
          clear A40
          by_cases c5 : t104 = true
          · subst c5
            have H1 : (peaveyref11_areRanges.l0 k1 l0 (wrap64 (x3_1 + 1))) = some r := by rw [if_pos rfl] at H; exact H
            clear H
            have H := H1
            clear H1
            have H' := Aside0.mk H
            clear H
            have p103 : 0 ≤ (x3_1 : Int) := of_decide_eq_true (by first | (with_reducible assumption) | assumption)
            have q103 : x3_1 < (l0.length : Int) := of_decide_eq_true (by first | (with_reducible assumption) | assumption)
            obtain ⟨ad103, e103, hx103_0, hx103_1⟩ := at_T24 HR0.out x3_1 p103 q103
            cases e103
            replace hx103_0 := (HB.out.cell (World.block_lt_of_cell? w _ hx103_0)).trans hx103_0
            replace hx103_1 := (HB.out.cell (World.block_lt_of_cell? w _ hx103_1)).trans hx103_1
            replace p103 := eq_true p103
            replace q103 := eq_true q103
            go_wp2_with (first | ((with_reducible refine gate_callee (f := 56) rfl ?_); refine goesL_ (some 14) rfl rfl Tryd.func56 (by kernel_rfl) rfl #[.agg #[.int .i64 ((rd_T24 l0 x3_1).f0), .int .i64 ((rd_T24 l0 x3_1).f1)]] rfl (by (try simp only [List.map_toArray, List.map_cons, List.map_nil]); first | done | rfl | (simp only [List.length_drop, List.length_take]; rfl)) ?_; (with_reducible refine (peaveyref11_isRange.calls ((rd_T24 l0 x3_1).f0) ((rd_T24 l0 x3_1).f1) true _ A4.out).mono ?_); rintro e w6 ⟨rfl, hb⟩; refine ⟨_, rfl, ?_⟩; have n0_ := Aside0.mk (below_step (by repeat (first | (with_reducible first | exact HB.out | apply below_alloc | apply pw_below_drewN | apply below_drew1) | exact HB.out)) hb); clear HB; have HB := n0_; clear n0_; (try clear hb); (try clear hb2); (try clear hk); (try clear hi)))
            go_roundg k1
            case measure => have := HK1.out; omega
            case rel => exact ⟨(wrap64 (x3_1 + 1)), (by first | rfl | (simp; done) | (simp [*]; done)), H', ⟨by have := HK1.out; omega⟩, ⟨by repeat (first | (with_reducible first | exact HB.out | apply below_alloc | apply pw_below_drewN | apply below_drew1) | exact HB.out)⟩⟩
          · replace c5 := Bool.eq_false_iff.mpr c5
            subst c5
            have H1 : (some false) = some r := by rw [if_neg (show ¬ (false = true) by decide)] at H; exact H
            clear H
            have H := H1
            clear H1
            obtain rfl := Option.some.inj H
            have p103 : 0 ≤ (x3_1 : Int) := of_decide_eq_true (by first | (with_reducible assumption) | assumption)
            have q103 : x3_1 < (l0.length : Int) := of_decide_eq_true (by first | (with_reducible assumption) | assumption)
            obtain ⟨ad103, e103, hx103_0, hx103_1⟩ := at_T24 HR0.out x3_1 p103 q103
            cases e103
            replace hx103_0 := (HB.out.cell (World.block_lt_of_cell? w _ hx103_0)).trans hx103_0
            replace hx103_1 := (HB.out.cell (World.block_lt_of_cell? w _ hx103_1)).trans hx103_1
            replace p103 := eq_true p103
            replace q103 := eq_true q103
            go_wp2_with (first | ((with_reducible refine gate_callee (f := 56) rfl ?_); refine goesL_ (some 14) rfl rfl Tryd.func56 (by kernel_rfl) rfl #[.agg #[.int .i64 ((rd_T24 l0 x3_1).f0), .int .i64 ((rd_T24 l0 x3_1).f1)]] rfl (by (try simp only [List.map_toArray, List.map_cons, List.map_nil]); first | done | rfl | (simp only [List.length_drop, List.length_take]; rfl)) ?_; (with_reducible refine (peaveyref11_isRange.calls ((rd_T24 l0 x3_1).f0) ((rd_T24 l0 x3_1).f1) false _ A4.out).mono ?_); rintro e w7 ⟨rfl, hb⟩; refine ⟨_, rfl, ?_⟩; have n0_ := Aside0.mk (below_step (by repeat (first | (with_reducible first | exact HB.out | apply below_alloc | apply pw_below_drewN | apply below_drew1) | exact HB.out)) hb); clear HB; have HB := n0_; clear n0_; (try clear hb); (try clear hb2); (try clear hk); (try clear hi)))
            go_ret
            exact ⟨by first | rfl | (simp [errW_none, errW_some] <;> rfl) | (simp [*, errW_none, errW_some] <;> rfl), by repeat (first | (with_reducible first | exact HB.out | apply below_alloc | apply pw_below_drewN | apply below_drew1) | exact HB.out)⟩
        · rw [if_neg c3] at H
          exact absurd H (by simp)
      · rw [if_neg c2] at H
        have c2b0 : decide (x3_1 < (l0.length : Int)) = false := decide_eq_false c2
        clear c2
        obtain rfl := Option.some.inj H
        go_wp2
        go_ret
        exact ⟨by first | rfl | (simp [errW_none, errW_some] <;> rfl) | (simp [*, errW_none, errW_some] <;> rfl), by repeat (first | (with_reducible first | exact HB.out | apply below_alloc | apply pw_below_drewN | apply below_drew1) | exact HB.out)⟩
def peaveyref11_CheckSheet.j0 : Nat → Bool → List (S24) → List (S24) → Int → Int → List (S24) → Option (Int)
  | 0, _, _, _, _, _, _ => none
  | k + 1, x24, x106000, x106001, x106002, x106003, x106004 => if x24 = true then (some 6) else (if (x106004.length : Int) = (wrap64 ((x106000.length : Int) * (x106001.length : Int))) then ((peaveyref11_areRanges.f k x106000).bind fun t106 => (if t106 = true then ((peaveyref11_areRanges.f k x106001).bind fun t107 => (if t107 = true then ((peaveyref11_areRanges.f k x106004).bind fun t108 => (if t108 = true then ((peaveyref11_isRange.f x106002 x106003).bind fun t109 => (if t109 = true then (some 0) else (some 3))) else (some 3))) else (some 3))) else (some 3))) else (some 15))
def peaveyref11_CheckSheet.f (k : Nat) (l0_0 : List (S24)) (l0_1 : List (S24)) (a0_2 : Int) (a0_3 : Int) (l0_4 : List (S24)) : Option (Int) := if (l0_0.length : Int) < 1 then (peaveyref11_CheckSheet.j0 k true l0_0 l0_1 a0_2 a0_3 l0_4) else (if (l0_0.length : Int) > 5 then (peaveyref11_CheckSheet.j0 k true l0_0 l0_1 a0_2 a0_3 l0_4) else (if (l0_1.length : Int) < 1 then (peaveyref11_CheckSheet.j0 k true l0_0 l0_1 a0_2 a0_3 l0_4) else (peaveyref11_CheckSheet.j0 k (decide ((l0_1.length : Int) > 5)) l0_0 l0_1 a0_2 a0_3 l0_4)))
set_option maxHeartbeats 8000000 in
set_option maxRecDepth 100000 in
theorem peaveyref11_CheckSheet.calls (k : Nat) (A0_0 : Option Addr) (c0_0 : Nat) (l0_0 : List (S24)) (A0_1 : Option Addr) (c0_1 : Nat) (l0_1 : List (S24)) (a0_2 : Int) (a0_3 : Int) (A0_4 : Option Addr) (c0_4 : Nat) (l0_4 : List (S24)) (r : Int) (w : World) (hr0_0 : Kd.C k24 w A0_0 l0_0.length l0_0) (hc0_0 : l0_0.length ≤ c0_0) (hr0_1 : Kd.C k24 w A0_1 l0_1.length l0_1) (hc0_1 : l0_1.length ≤ c0_1) (hr0_4 : Kd.C k24 w A0_4 l0_4.length l0_4) (hc0_4 : l0_4.length ≤ c0_4) (h : peaveyref11_CheckSheet.f k l0_0 l0_1 a0_2 a0_3 l0_4 = some r) :
    Calls Tryd.prog 21 #[.agg #[.slice A0_0 l0_0.length c0_0, .slice A0_1 l0_1.length c0_1, .int .i64 a0_2, .int .i64 a0_3, .slice A0_4 l0_4.length c0_4]] w fun e w' => e = .returned (.int .i64 r) ∧ Below w.heap.size w w' := by
  have hu26 := Tryd.underlying26
  have hu24 := Tryd.underlying24
  have HR0_0 := Aside0.mk hr0_0
  have HC0_0 := Aside0.mk hc0_0
  clear hr0_0 hc0_0
  have HR0_1 := Aside0.mk hr0_1
  have HC0_1 := Aside0.mk hc0_1
  clear hr0_1 hc0_1
  have HR0_4 := Aside0.mk hr0_4
  have HC0_4 := Aside0.mk hc0_4
  clear hr0_4 hc0_4
  have HB := Aside0.mk (Below.refl w.heap.size w)
  have H : (if (l0_0.length : Int) < 1 then (peaveyref11_CheckSheet.j0 k true l0_0 l0_1 a0_2 a0_3 l0_4) else (if (l0_0.length : Int) > 5 then (peaveyref11_CheckSheet.j0 k true l0_0 l0_1 a0_2 a0_3 l0_4) else (if (l0_1.length : Int) < 1 then (peaveyref11_CheckSheet.j0 k true l0_0 l0_1 a0_2 a0_3 l0_4) else (peaveyref11_CheckSheet.j0 k (decide ((l0_1.length : Int) > 5)) l0_0 l0_1 a0_2 a0_3 l0_4)))) = some r := h
  clear h
  have HC2 := Aside0.mk H
  clear H
  go_enter Tryd.func21, Tryd.ntmps21
  go_upto_region 1 with (first | ((with_reducible refine gate_dst (N := 1) rfl ?_); (try (refine gate_guard (by rfl) ?_; dsimp only)); refine box_event ?hg (N := 1) ?hd (cs := #[.slice A0_0 l0_0.length c0_0, .slice A0_1 l0_1.length c0_1, .int .i64 a0_2, .int .i64 a0_3, .slice A0_4 l0_4.length c0_4]) (t := 26) ?hr ?_; (case hd => rfl); (case hg => rfl); (case hr => first | (go_simp; done) | (go_simp; rfl)); intro gb105 hg w3 hbox hb; have n0_ := Aside0.mk (below_step (by repeat (first | (with_reducible first | exact HB.out | apply below_alloc | apply pw_below_drewN | apply below_drew1) | exact HB.out)) hb); have n1_ := Aside0.mk (hbox); have n2_ := Aside0.mk ((by rw [hg]; exact (below_size (by repeat (first | (with_reducible first | exact HB.out | apply below_alloc | apply pw_below_drewN | apply below_drew1) | exact HB.out))) : w.heap.size ≤ gb105)); have n3_ := Aside0.mk ((by rw [hg]; exact (below_size (by repeat (first | (with_reducible first | exact HB.out | apply below_alloc | apply pw_below_drewN | apply below_drew1) | exact HB.out))) : w.heap.size ≤ gb105)); clear HB; have HB := n0_; have BK105 := n1_; have GW105 := n2_; have GE105 := n3_; clear n0_ n1_ n2_ n3_; clear hb hbox hg))
  (try simp only [Act.put, List.setIfInBounds_toArray, List.set_cons_zero, List.set_cons_succ])
  go_cut [24] (fun v24 wc => ∃ (kq : Nat) (x24_1 : Bool), v24 = .bool x24_1 ∧ Aside0 (peaveyref11_CheckSheet.j0 kq x24_1 l0_0 l0_1 a0_2 a0_3 l0_4 = some r) ∧ Aside0 (kq ≤ k) ∧ Aside0 (wc.heap[gb105]? = some (.cells #[(.slice A0_0 l0_0.length c0_0), (.slice A0_1 l0_1.length c0_1), .int .i64 a0_2, .int .i64 a0_3, (.slice A0_4 l0_4.length c0_4)] 26 (0, 0))) ∧ Aside0 (Below w.heap.size w wc))
  case first =>
    have H := HC2.out
    clear HC2
    by_cases c4 : (l0_0.length : Int) < 1
    · rw [if_pos c4] at H
      have c4b0 : decide ((l0_0.length : Int) < 1) = true := decide_eq_true c4
      have c4b1 : decide (l0_0.length < 1) = true := decide_eq_true (by omega)
      clear c4
      (first | rw [c4b0] | (simp only [i64_w, i32_w]; rw [c4b0]) | skip)
      have H' := Aside0.mk H
      clear H
      have hcz5_0 : w3.cell? ⟨gb105, 0, none⟩ = some (.slice A0_0 l0_0.length c0_0) := (blk_cell BK105.out 0).trans rfl
      have hcz5_1 : w3.cell? ⟨gb105, 1, none⟩ = some (.slice A0_1 l0_1.length c0_1) := (blk_cell BK105.out 1).trans rfl
      have hcz5_2 : w3.cell? ⟨gb105, 2, none⟩ = some (.int .i64 a0_2) := (blk_cell BK105.out 2).trans rfl
      have hcz5_3 : w3.cell? ⟨gb105, 3, none⟩ = some (.int .i64 a0_3) := (blk_cell BK105.out 3).trans rfl
      have hcz5_4 : w3.cell? ⟨gb105, 4, none⟩ = some (.slice A0_4 l0_4.length c0_4) := (blk_cell BK105.out 4).trans rfl
      have hfz5_0 := blk_frozen BK105.out 0
      have hfz5_1 := blk_frozen BK105.out 1
      have hfz5_2 := blk_frozen BK105.out 2
      have hfz5_3 := blk_frozen BK105.out 3
      have hfz5_4 := blk_frozen BK105.out 4
      go_wp2
      go_meet
      case rel => exact ⟨_, (true), (by first | rfl | (simp; done) | (simp [*]; done)), H', ⟨by first | omega | exact Nat.le_refl _⟩, ⟨by (with_reducible repeat (first | refine blk_drewN ?_ _ | refine blk_drew ?_ | refine blk_alloc ?_ _)); exact BK105.out⟩, ⟨by repeat (first | (with_reducible first | exact HB.out | apply below_alloc | apply pw_below_drewN | apply below_drew1 | refine below_set ?_ GE105.out) | exact HB.out)⟩⟩
    · rw [if_neg c4] at H
      have c4b0 : decide ((l0_0.length : Int) < 1) = false := decide_eq_false c4
      have c4b1 : decide (l0_0.length < 1) = false := decide_eq_false (by omega)
      clear c4
      (first | rw [c4b0] | (simp only [i64_w, i32_w]; rw [c4b0]) | skip)
      by_cases c6 : (l0_0.length : Int) > 5
      · rw [if_pos c6] at H
        have c6b0 : decide (5 < (l0_0.length : Int)) = true := decide_eq_true c6
        have c6b1 : decide (5 < l0_0.length) = true := decide_eq_true (by omega)
        clear c6
        have H' := Aside0.mk H
        clear H
        have hcz7_0 : w3.cell? ⟨gb105, 0, none⟩ = some (.slice A0_0 l0_0.length c0_0) := (blk_cell BK105.out 0).trans rfl
        have hcz7_1 : w3.cell? ⟨gb105, 1, none⟩ = some (.slice A0_1 l0_1.length c0_1) := (blk_cell BK105.out 1).trans rfl
        have hcz7_2 : w3.cell? ⟨gb105, 2, none⟩ = some (.int .i64 a0_2) := (blk_cell BK105.out 2).trans rfl
        have hcz7_3 : w3.cell? ⟨gb105, 3, none⟩ = some (.int .i64 a0_3) := (blk_cell BK105.out 3).trans rfl
        have hcz7_4 : w3.cell? ⟨gb105, 4, none⟩ = some (.slice A0_4 l0_4.length c0_4) := (blk_cell BK105.out 4).trans rfl
        have hfz7_0 := blk_frozen BK105.out 0
        have hfz7_1 := blk_frozen BK105.out 1
        have hfz7_2 := blk_frozen BK105.out 2
        have hfz7_3 := blk_frozen BK105.out 3
        have hfz7_4 := blk_frozen BK105.out 4
        go_wp2
        go_meet
        case rel => exact ⟨_, (true), (by first | rfl | (simp; done) | (simp [*]; done)), H', ⟨by first | omega | exact Nat.le_refl _⟩, ⟨by (with_reducible repeat (first | refine blk_drewN ?_ _ | refine blk_drew ?_ | refine blk_alloc ?_ _)); exact BK105.out⟩, ⟨by repeat (first | (with_reducible first | exact HB.out | apply below_alloc | apply pw_below_drewN | apply below_drew1 | refine below_set ?_ GE105.out) | exact HB.out)⟩⟩
      · rw [if_neg c6] at H
        have c6b0 : decide (5 < (l0_0.length : Int)) = false := decide_eq_false c6
        have c6b1 : decide (5 < l0_0.length) = false := decide_eq_false (by omega)
        clear c6
        by_cases c8 : (l0_1.length : Int) < 1
        · rw [if_pos c8] at H
          have c8b0 : decide ((l0_1.length : Int) < 1) = true := decide_eq_true c8
          have c8b1 : decide (l0_1.length < 1) = true := decide_eq_true (by omega)
          clear c8
          have H' := Aside0.mk H
          clear H
          have hcz9_0 : w3.cell? ⟨gb105, 0, none⟩ = some (.slice A0_0 l0_0.length c0_0) := (blk_cell BK105.out 0).trans rfl
          have hcz9_1 : w3.cell? ⟨gb105, 1, none⟩ = some (.slice A0_1 l0_1.length c0_1) := (blk_cell BK105.out 1).trans rfl
          have hcz9_2 : w3.cell? ⟨gb105, 2, none⟩ = some (.int .i64 a0_2) := (blk_cell BK105.out 2).trans rfl
          have hcz9_3 : w3.cell? ⟨gb105, 3, none⟩ = some (.int .i64 a0_3) := (blk_cell BK105.out 3).trans rfl
          have hcz9_4 : w3.cell? ⟨gb105, 4, none⟩ = some (.slice A0_4 l0_4.length c0_4) := (blk_cell BK105.out 4).trans rfl
          have hfz9_0 := blk_frozen BK105.out 0
          have hfz9_1 := blk_frozen BK105.out 1
          have hfz9_2 := blk_frozen BK105.out 2
          have hfz9_3 := blk_frozen BK105.out 3
          have hfz9_4 := blk_frozen BK105.out 4
          go_wp2
          go_meet
          case rel => exact ⟨_, (true), (by first | rfl | (simp; done) | (simp [*]; done)), H', ⟨by first | omega | exact Nat.le_refl _⟩, ⟨by (with_reducible repeat (first | refine blk_drewN ?_ _ | refine blk_drew ?_ | refine blk_alloc ?_ _)); exact BK105.out⟩, ⟨by repeat (first | (with_reducible first | exact HB.out | apply below_alloc | apply pw_below_drewN | apply below_drew1 | refine below_set ?_ GE105.out) | exact HB.out)⟩⟩
        · rw [if_neg c8] at H
          have c8b0 : decide ((l0_1.length : Int) < 1) = false := decide_eq_false c8
          have c8b1 : decide (l0_1.length < 1) = false := decide_eq_false (by omega)
          clear c8
          have H' := Aside0.mk H
          clear H
          have hcz10_0 : w3.cell? ⟨gb105, 0, none⟩ = some (.slice A0_0 l0_0.length c0_0) := (blk_cell BK105.out 0).trans rfl
          have hcz10_1 : w3.cell? ⟨gb105, 1, none⟩ = some (.slice A0_1 l0_1.length c0_1) := (blk_cell BK105.out 1).trans rfl
          have hcz10_2 : w3.cell? ⟨gb105, 2, none⟩ = some (.int .i64 a0_2) := (blk_cell BK105.out 2).trans rfl
          have hcz10_3 : w3.cell? ⟨gb105, 3, none⟩ = some (.int .i64 a0_3) := (blk_cell BK105.out 3).trans rfl
          have hcz10_4 : w3.cell? ⟨gb105, 4, none⟩ = some (.slice A0_4 l0_4.length c0_4) := (blk_cell BK105.out 4).trans rfl
          have hfz10_0 := blk_frozen BK105.out 0
          have hfz10_1 := blk_frozen BK105.out 1
          have hfz10_2 := blk_frozen BK105.out 2
          have hfz10_3 := blk_frozen BK105.out 3
          have hfz10_4 := blk_frozen BK105.out 4
          go_wp2
          go_meet
          case rel => exact ⟨_, (decide ((l0_1.length : Int) > 5)), (by first | rfl | (simp; done) | (simp [*]; done)), H', ⟨by first | omega | exact Nat.le_refl _⟩, ⟨by (with_reducible repeat (first | refine blk_drewN ?_ _ | refine blk_drew ?_ | refine blk_alloc ?_ _)); exact BK105.out⟩, ⟨by repeat (first | (with_reducible first | exact HB.out | apply below_alloc | apply pw_below_drewN | apply below_drew1 | refine below_set ?_ GE105.out) | exact HB.out)⟩⟩
  case rest =>
    clear HC2
    try clear c2
    try clear p2
    try clear c4
    try clear c4b0
    try clear c4b1
    try clear c6
    try clear c6b0
    try clear c6b1
    try clear c8
    try clear c8b0
    try clear c8b1
    try clear hcz10_0
    try clear hcz10_1
    try clear hcz10_2
    try clear hcz10_3
    try clear hcz10_4
    try clear hcz5_0
    try clear hcz5_1
    try clear hcz5_2
    try clear hcz5_3
    try clear hcz5_4
    try clear hcz7_0
    try clear hcz7_1
    try clear hcz7_2
    try clear hcz7_3
    try clear hcz7_4
    try clear hcz9_0
    try clear hcz9_1
    try clear hcz9_2
    try clear hcz9_3
    try clear hcz9_4
    try clear hfz10_0
    try clear hfz10_1
    try clear hfz10_2
    try clear hfz10_3
    try clear hfz10_4
    try clear hfz5_0
    try clear hfz5_1
    try clear hfz5_2
    try clear hfz5_3
    try clear hfz5_4
    try clear hfz7_0
    try clear hfz7_1
    try clear hfz7_2
    try clear hfz7_3
    try clear hfz7_4
    try clear hfz9_0
    try clear hfz9_1
    try clear hfz9_2
    try clear hfz9_3
    try clear hfz9_4
    obtain ⟨kq, x24_1, rfl, HA, HJ1, BK105, HB⟩ := hcut
    cases kq with
    | zero => exact absurd HA.out (by simp [peaveyref11_CheckSheet.j0])
    | succ kj1 =>
      have H := HA.out
      clear HA
      simp only [peaveyref11_CheckSheet.j0] at H
      by_cases c11 : x24_1 = true
      · subst c11
        have H1 : (some 6) = some r := by rw [if_pos rfl] at H; exact H
        clear H
        have H := H1
        clear H1
        obtain rfl := Option.some.inj H
        go_wp2
        go_ret
        exact ⟨by first | rfl | (simp [errW_none, errW_some] <;> rfl) | (simp [*, errW_none, errW_some] <;> rfl), by repeat (first | (with_reducible first | exact HB.out | apply below_alloc | apply pw_below_drewN | apply below_drew1 | refine below_set ?_ GE105.out) | exact HB.out)⟩
      · replace c11 := Bool.eq_false_iff.mpr c11
        subst c11
        have H1 : (if (l0_4.length : Int) = (wrap64 ((l0_0.length : Int) * (l0_1.length : Int))) then ((peaveyref11_areRanges.f kj1 l0_0).bind fun t106 => (if t106 = true then ((peaveyref11_areRanges.f kj1 l0_1).bind fun t107 => (if t107 = true then ((peaveyref11_areRanges.f kj1 l0_4).bind fun t108 => (if t108 = true then ((peaveyref11_isRange.f a0_2 a0_3).bind fun t109 => (if t109 = true then (some 0) else (some 3))) else (some 3))) else (some 3))) else (some 3))) else (some 15)) = some r := by rw [if_neg (show ¬ (false = true) by decide)] at H; exact H
        clear H
        have H := H1
        clear H1
        by_cases c12 : (l0_4.length : Int) = (wrap64 ((l0_0.length : Int) * (l0_1.length : Int)))
        · rw [if_pos c12] at H
          have c12b0 : ((l0_4.length : Int) == (wrap64 ((l0_0.length : Int) * (l0_1.length : Int)))) = true := beq_iff_eq.mpr c12
          have c12b1 : ((l0_4.length : Int) != (wrap64 ((l0_0.length : Int) * (l0_1.length : Int)))) = false := bne_eq_false_iff_eq.mpr c12
          clear c12
          replace H := Option.bind_eq_some_iff.mp H
          obtain ⟨t106, A130, H⟩ := H
          replace H : (if t106 = true then ((peaveyref11_areRanges.f kj1 l0_1).bind fun t107 => (if t107 = true then ((peaveyref11_areRanges.f kj1 l0_4).bind fun t108 => (if t108 = true then ((peaveyref11_isRange.f a0_2 a0_3).bind fun t109 => (if t109 = true then (some 0) else (some 3))) else (some 3))) else (some 3))) else (some 3)) = some r := H
          have A13 := Aside0.mk A130
          clear A130
          by_cases c14 : t106 = true
          · subst c14
            have H1 : ((peaveyref11_areRanges.f kj1 l0_1).bind fun t107 => (if t107 = true then ((peaveyref11_areRanges.f kj1 l0_4).bind fun t108 => (if t108 = true then ((peaveyref11_isRange.f a0_2 a0_3).bind fun t109 => (if t109 = true then (some 0) else (some 3))) else (some 3))) else (some 3))) = some r := by rw [if_pos rfl] at H; exact H
            clear H
            have H := H1
            clear H1
            replace H := Option.bind_eq_some_iff.mp H
            obtain ⟨t107, A150, H⟩ := H
            replace H : (if t107 = true then ((peaveyref11_areRanges.f kj1 l0_4).bind fun t108 => (if t108 = true then ((peaveyref11_isRange.f a0_2 a0_3).bind fun t109 => (if t109 = true then (some 0) else (some 3))) else (some 3))) else (some 3)) = some r := H
            have A15 := Aside0.mk A150
            clear A150
            by_cases c16 : t107 = true
            · subst c16
              have H1 : ((peaveyref11_areRanges.f kj1 l0_4).bind fun t108 => (if t108 = true then ((peaveyref11_isRange.f a0_2 a0_3).bind fun t109 => (if t109 = true then (some 0) else (some 3))) else (some 3))) = some r := by rw [if_pos rfl] at H; exact H
              clear H
              have H := H1
              clear H1
              replace H := Option.bind_eq_some_iff.mp H
              obtain ⟨t108, A170, H⟩ := H
              replace H : (if t108 = true then ((peaveyref11_isRange.f a0_2 a0_3).bind fun t109 => (if t109 = true then (some 0) else (some 3))) else (some 3)) = some r := H
              have A17 := Aside0.mk A170
              clear A170
              by_cases c18 : t108 = true
              · subst c18
                have H1 : ((peaveyref11_isRange.f a0_2 a0_3).bind fun t109 => (if t109 = true then (some 0) else (some 3))) = some r := by rw [if_pos rfl] at H; exact H
                clear H
                have H := H1
                clear H1
                replace H := Option.bind_eq_some_iff.mp H
                obtain ⟨t109, A190, H⟩ := H
                replace H : (if t109 = true then (some 0) else (some 3)) = some r := H
                have A19 := Aside0.mk A190
                clear A190
                by_cases c20 : t109 = true
                · subst c20
                  have H1 : (some 0) = some r := by rw [if_pos rfl] at H; exact H
                  clear H
                  have H := H1
                  clear H1
                  obtain rfl := Option.some.inj H
                  have hcz21_0 : wc.cell? ⟨gb105, 0, none⟩ = some (.slice A0_0 l0_0.length c0_0) := (blk_cell BK105.out 0).trans rfl
                  have hcz21_1 : wc.cell? ⟨gb105, 1, none⟩ = some (.slice A0_1 l0_1.length c0_1) := (blk_cell BK105.out 1).trans rfl
                  have hcz21_2 : wc.cell? ⟨gb105, 2, none⟩ = some (.int .i64 a0_2) := (blk_cell BK105.out 2).trans rfl
                  have hcz21_3 : wc.cell? ⟨gb105, 3, none⟩ = some (.int .i64 a0_3) := (blk_cell BK105.out 3).trans rfl
                  have hcz21_4 : wc.cell? ⟨gb105, 4, none⟩ = some (.slice A0_4 l0_4.length c0_4) := (blk_cell BK105.out 4).trans rfl
                  have hfz21_0 := blk_frozen BK105.out 0
                  have hfz21_1 := blk_frozen BK105.out 1
                  have hfz21_2 := blk_frozen BK105.out 2
                  have hfz21_3 := blk_frozen BK105.out 3
                  have hfz21_4 := blk_frozen BK105.out 4
                  go_wp2_with (first | ((with_reducible refine gate_callee (f := 55) rfl ?_); refine goesL_ (some 38) rfl rfl Tryd.func55 (by kernel_rfl) rfl #[.slice A0_0 l0_0.length c0_0] rfl (by (try simp only [List.map_toArray, List.map_cons, List.map_nil]); first | done | rfl | (simp only [List.length_drop, List.length_take]; rfl)) ?_; (with_reducible refine (peaveyref11_areRanges.calls kj1 _ _ l0_0 true _ ?side1 ?side2 A13.out).mono ?_); (case side1 => repeat (first | exact (Kd.C_below HR0_0.out HB.out) | (with_reducible refine Kd.C_alloc ?_ _) | (with_reducible refine Kd.C_drewN ?_ _) | (with_reducible refine Kd.C_drew ?_))); (case side2 => exact HC0_0.out); rintro e w22 ⟨rfl, hb⟩; refine ⟨_, rfl, ?_⟩; have n0_ := Aside0.mk (blk_below (g := gb105) (o := .cells #[.slice A0_0 l0_0.length c0_0, .slice A0_1 l0_1.length c0_1, .int .i64 a0_2, .int .i64 a0_3, .slice A0_4 l0_4.length c0_4] 26 (0, 0)) (by (with_reducible repeat (first | refine blk_drewN ?_ _ | refine blk_drew ?_ | refine blk_alloc ?_ _)); exact BK105.out) hb); have n1_ := Aside0.mk (below_step (by repeat (first | (with_reducible first | exact HB.out | apply below_alloc | apply pw_below_drewN | apply below_drew1 | refine below_set ?_ GE105.out) | exact HB.out)) hb); clear BK105; clear HB; have BK105 := n0_; have HB := n1_; clear n0_ n1_; (try clear hb); (try clear hb2); (try clear hk); (try clear hi); have hcz23_0 : w22.cell? ⟨gb105, 0, none⟩ = some (.slice A0_0 l0_0.length c0_0) := (blk_cell BK105.out 0).trans rfl; have hcz23_1 : w22.cell? ⟨gb105, 1, none⟩ = some (.slice A0_1 l0_1.length c0_1) := (blk_cell BK105.out 1).trans rfl; have hcz23_2 : w22.cell? ⟨gb105, 2, none⟩ = some (.int .i64 a0_2) := (blk_cell BK105.out 2).trans rfl; have hcz23_3 : w22.cell? ⟨gb105, 3, none⟩ = some (.int .i64 a0_3) := (blk_cell BK105.out 3).trans rfl; have hcz23_4 : w22.cell? ⟨gb105, 4, none⟩ = some (.slice A0_4 l0_4.length c0_4) := (blk_cell BK105.out 4).trans rfl; have hfz23_0 := blk_frozen BK105.out 0; have hfz23_1 := blk_frozen BK105.out 1; have hfz23_2 := blk_frozen BK105.out 2; have hfz23_3 := blk_frozen BK105.out 3; have hfz23_4 := blk_frozen BK105.out 4) | (go_at_call 55; (with_reducible refine (peaveyref11_areRanges.calls kj1 _ _ l0_1 true _ ?side1 ?side2 A15.out).mono ?_); (case side1 => repeat (first | exact (Kd.C_below HR0_1.out HB.out) | (with_reducible refine Kd.C_alloc ?_ _) | (with_reducible refine Kd.C_drewN ?_ _) | (with_reducible refine Kd.C_drew ?_))); (case side2 => exact HC0_1.out); rintro e w24 ⟨rfl, hb⟩; have n0_ := Aside0.mk (blk_below (g := gb105) (o := .cells #[.slice A0_0 l0_0.length c0_0, .slice A0_1 l0_1.length c0_1, .int .i64 a0_2, .int .i64 a0_3, .slice A0_4 l0_4.length c0_4] 26 (0, 0)) (by (with_reducible repeat (first | refine blk_drewN ?_ _ | refine blk_drew ?_ | refine blk_alloc ?_ _)); exact BK105.out) hb); have n1_ := Aside0.mk (below_step (by repeat (first | (with_reducible first | exact HB.out | apply below_alloc | apply pw_below_drewN | apply below_drew1 | refine below_set ?_ GE105.out) | exact HB.out)) hb); clear BK105; clear HB; have BK105 := n0_; have HB := n1_; clear n0_ n1_; (try clear hb); (try clear hb2); (try clear hk); (try clear hi); have hcz25_0 : w24.cell? ⟨gb105, 0, none⟩ = some (.slice A0_0 l0_0.length c0_0) := (blk_cell BK105.out 0).trans rfl; have hcz25_1 : w24.cell? ⟨gb105, 1, none⟩ = some (.slice A0_1 l0_1.length c0_1) := (blk_cell BK105.out 1).trans rfl; have hcz25_2 : w24.cell? ⟨gb105, 2, none⟩ = some (.int .i64 a0_2) := (blk_cell BK105.out 2).trans rfl; have hcz25_3 : w24.cell? ⟨gb105, 3, none⟩ = some (.int .i64 a0_3) := (blk_cell BK105.out 3).trans rfl; have hcz25_4 : w24.cell? ⟨gb105, 4, none⟩ = some (.slice A0_4 l0_4.length c0_4) := (blk_cell BK105.out 4).trans rfl; have hfz25_0 := blk_frozen BK105.out 0; have hfz25_1 := blk_frozen BK105.out 1; have hfz25_2 := blk_frozen BK105.out 2; have hfz25_3 := blk_frozen BK105.out 3; have hfz25_4 := blk_frozen BK105.out 4) | (go_at_call 55; (with_reducible refine (peaveyref11_areRanges.calls kj1 _ _ l0_4 true _ ?side1 ?side2 A17.out).mono ?_); (case side1 => repeat (first | exact (Kd.C_below HR0_4.out HB.out) | (with_reducible refine Kd.C_alloc ?_ _) | (with_reducible refine Kd.C_drewN ?_ _) | (with_reducible refine Kd.C_drew ?_))); (case side2 => exact HC0_4.out); rintro e w26 ⟨rfl, hb⟩; have n0_ := Aside0.mk (blk_below (g := gb105) (o := .cells #[.slice A0_0 l0_0.length c0_0, .slice A0_1 l0_1.length c0_1, .int .i64 a0_2, .int .i64 a0_3, .slice A0_4 l0_4.length c0_4] 26 (0, 0)) (by (with_reducible repeat (first | refine blk_drewN ?_ _ | refine blk_drew ?_ | refine blk_alloc ?_ _)); exact BK105.out) hb); have n1_ := Aside0.mk (below_step (by repeat (first | (with_reducible first | exact HB.out | apply below_alloc | apply pw_below_drewN | apply below_drew1 | refine below_set ?_ GE105.out) | exact HB.out)) hb); clear BK105; clear HB; have BK105 := n0_; have HB := n1_; clear n0_ n1_; (try clear hb); (try clear hb2); (try clear hk); (try clear hi); have hcz27_0 : w26.cell? ⟨gb105, 0, none⟩ = some (.slice A0_0 l0_0.length c0_0) := (blk_cell BK105.out 0).trans rfl; have hcz27_1 : w26.cell? ⟨gb105, 1, none⟩ = some (.slice A0_1 l0_1.length c0_1) := (blk_cell BK105.out 1).trans rfl; have hcz27_2 : w26.cell? ⟨gb105, 2, none⟩ = some (.int .i64 a0_2) := (blk_cell BK105.out 2).trans rfl; have hcz27_3 : w26.cell? ⟨gb105, 3, none⟩ = some (.int .i64 a0_3) := (blk_cell BK105.out 3).trans rfl; have hcz27_4 : w26.cell? ⟨gb105, 4, none⟩ = some (.slice A0_4 l0_4.length c0_4) := (blk_cell BK105.out 4).trans rfl; have hfz27_0 := blk_frozen BK105.out 0; have hfz27_1 := blk_frozen BK105.out 1; have hfz27_2 := blk_frozen BK105.out 2; have hfz27_3 := blk_frozen BK105.out 3; have hfz27_4 := blk_frozen BK105.out 4) | (go_at_call 56; (with_reducible refine (peaveyref11_isRange.calls a0_2 a0_3 true _ A19.out).mono ?_); rintro e w28 ⟨rfl, hb⟩; have n0_ := Aside0.mk (blk_below (g := gb105) (o := .cells #[.slice A0_0 l0_0.length c0_0, .slice A0_1 l0_1.length c0_1, .int .i64 a0_2, .int .i64 a0_3, .slice A0_4 l0_4.length c0_4] 26 (0, 0)) (by (with_reducible repeat (first | refine blk_drewN ?_ _ | refine blk_drew ?_ | refine blk_alloc ?_ _)); exact BK105.out) hb); have n1_ := Aside0.mk (below_step (by repeat (first | (with_reducible first | exact HB.out | apply below_alloc | apply pw_below_drewN | apply below_drew1 | refine below_set ?_ GE105.out) | exact HB.out)) hb); clear BK105; clear HB; have BK105 := n0_; have HB := n1_; clear n0_ n1_; (try clear hb); (try clear hb2); (try clear hk); (try clear hi)))
                  go_ret
                  exact ⟨by first | rfl | (simp [errW_none, errW_some] <;> rfl) | (simp [*, errW_none, errW_some] <;> rfl), by repeat (first | (with_reducible first | exact HB.out | apply below_alloc | apply pw_below_drewN | apply below_drew1 | refine below_set ?_ GE105.out) | exact HB.out)⟩
                · replace c20 := Bool.eq_false_iff.mpr c20
                  subst c20
                  have H1 : (some 3) = some r := by rw [if_neg (show ¬ (false = true) by decide)] at H; exact H
                  clear H
                  have H := H1
                  clear H1
                  obtain rfl := Option.some.inj H
                  have hcz29_0 : wc.cell? ⟨gb105, 0, none⟩ = some (.slice A0_0 l0_0.length c0_0) := (blk_cell BK105.out 0).trans rfl
                  have hcz29_1 : wc.cell? ⟨gb105, 1, none⟩ = some (.slice A0_1 l0_1.length c0_1) := (blk_cell BK105.out 1).trans rfl
                  have hcz29_2 : wc.cell? ⟨gb105, 2, none⟩ = some (.int .i64 a0_2) := (blk_cell BK105.out 2).trans rfl
                  have hcz29_3 : wc.cell? ⟨gb105, 3, none⟩ = some (.int .i64 a0_3) := (blk_cell BK105.out 3).trans rfl
                  have hcz29_4 : wc.cell? ⟨gb105, 4, none⟩ = some (.slice A0_4 l0_4.length c0_4) := (blk_cell BK105.out 4).trans rfl
                  have hfz29_0 := blk_frozen BK105.out 0
                  have hfz29_1 := blk_frozen BK105.out 1
                  have hfz29_2 := blk_frozen BK105.out 2
                  have hfz29_3 := blk_frozen BK105.out 3
                  have hfz29_4 := blk_frozen BK105.out 4
                  go_wp2_with (first | ((with_reducible refine gate_callee (f := 55) rfl ?_); refine goesL_ (some 38) rfl rfl Tryd.func55 (by kernel_rfl) rfl #[.slice A0_0 l0_0.length c0_0] rfl (by (try simp only [List.map_toArray, List.map_cons, List.map_nil]); first | done | rfl | (simp only [List.length_drop, List.length_take]; rfl)) ?_; (with_reducible refine (peaveyref11_areRanges.calls kj1 _ _ l0_0 true _ ?side1 ?side2 A13.out).mono ?_); (case side1 => repeat (first | exact (Kd.C_below HR0_0.out HB.out) | (with_reducible refine Kd.C_alloc ?_ _) | (with_reducible refine Kd.C_drewN ?_ _) | (with_reducible refine Kd.C_drew ?_))); (case side2 => exact HC0_0.out); rintro e w30 ⟨rfl, hb⟩; refine ⟨_, rfl, ?_⟩; have n0_ := Aside0.mk (blk_below (g := gb105) (o := .cells #[.slice A0_0 l0_0.length c0_0, .slice A0_1 l0_1.length c0_1, .int .i64 a0_2, .int .i64 a0_3, .slice A0_4 l0_4.length c0_4] 26 (0, 0)) (by (with_reducible repeat (first | refine blk_drewN ?_ _ | refine blk_drew ?_ | refine blk_alloc ?_ _)); exact BK105.out) hb); have n1_ := Aside0.mk (below_step (by repeat (first | (with_reducible first | exact HB.out | apply below_alloc | apply pw_below_drewN | apply below_drew1 | refine below_set ?_ GE105.out) | exact HB.out)) hb); clear BK105; clear HB; have BK105 := n0_; have HB := n1_; clear n0_ n1_; (try clear hb); (try clear hb2); (try clear hk); (try clear hi); have hcz31_0 : w30.cell? ⟨gb105, 0, none⟩ = some (.slice A0_0 l0_0.length c0_0) := (blk_cell BK105.out 0).trans rfl; have hcz31_1 : w30.cell? ⟨gb105, 1, none⟩ = some (.slice A0_1 l0_1.length c0_1) := (blk_cell BK105.out 1).trans rfl; have hcz31_2 : w30.cell? ⟨gb105, 2, none⟩ = some (.int .i64 a0_2) := (blk_cell BK105.out 2).trans rfl; have hcz31_3 : w30.cell? ⟨gb105, 3, none⟩ = some (.int .i64 a0_3) := (blk_cell BK105.out 3).trans rfl; have hcz31_4 : w30.cell? ⟨gb105, 4, none⟩ = some (.slice A0_4 l0_4.length c0_4) := (blk_cell BK105.out 4).trans rfl; have hfz31_0 := blk_frozen BK105.out 0; have hfz31_1 := blk_frozen BK105.out 1; have hfz31_2 := blk_frozen BK105.out 2; have hfz31_3 := blk_frozen BK105.out 3; have hfz31_4 := blk_frozen BK105.out 4) | (go_at_call 55; (with_reducible refine (peaveyref11_areRanges.calls kj1 _ _ l0_1 true _ ?side1 ?side2 A15.out).mono ?_); (case side1 => repeat (first | exact (Kd.C_below HR0_1.out HB.out) | (with_reducible refine Kd.C_alloc ?_ _) | (with_reducible refine Kd.C_drewN ?_ _) | (with_reducible refine Kd.C_drew ?_))); (case side2 => exact HC0_1.out); rintro e w32 ⟨rfl, hb⟩; have n0_ := Aside0.mk (blk_below (g := gb105) (o := .cells #[.slice A0_0 l0_0.length c0_0, .slice A0_1 l0_1.length c0_1, .int .i64 a0_2, .int .i64 a0_3, .slice A0_4 l0_4.length c0_4] 26 (0, 0)) (by (with_reducible repeat (first | refine blk_drewN ?_ _ | refine blk_drew ?_ | refine blk_alloc ?_ _)); exact BK105.out) hb); have n1_ := Aside0.mk (below_step (by repeat (first | (with_reducible first | exact HB.out | apply below_alloc | apply pw_below_drewN | apply below_drew1 | refine below_set ?_ GE105.out) | exact HB.out)) hb); clear BK105; clear HB; have BK105 := n0_; have HB := n1_; clear n0_ n1_; (try clear hb); (try clear hb2); (try clear hk); (try clear hi); have hcz33_0 : w32.cell? ⟨gb105, 0, none⟩ = some (.slice A0_0 l0_0.length c0_0) := (blk_cell BK105.out 0).trans rfl; have hcz33_1 : w32.cell? ⟨gb105, 1, none⟩ = some (.slice A0_1 l0_1.length c0_1) := (blk_cell BK105.out 1).trans rfl; have hcz33_2 : w32.cell? ⟨gb105, 2, none⟩ = some (.int .i64 a0_2) := (blk_cell BK105.out 2).trans rfl; have hcz33_3 : w32.cell? ⟨gb105, 3, none⟩ = some (.int .i64 a0_3) := (blk_cell BK105.out 3).trans rfl; have hcz33_4 : w32.cell? ⟨gb105, 4, none⟩ = some (.slice A0_4 l0_4.length c0_4) := (blk_cell BK105.out 4).trans rfl; have hfz33_0 := blk_frozen BK105.out 0; have hfz33_1 := blk_frozen BK105.out 1; have hfz33_2 := blk_frozen BK105.out 2; have hfz33_3 := blk_frozen BK105.out 3; have hfz33_4 := blk_frozen BK105.out 4) | (go_at_call 55; (with_reducible refine (peaveyref11_areRanges.calls kj1 _ _ l0_4 true _ ?side1 ?side2 A17.out).mono ?_); (case side1 => repeat (first | exact (Kd.C_below HR0_4.out HB.out) | (with_reducible refine Kd.C_alloc ?_ _) | (with_reducible refine Kd.C_drewN ?_ _) | (with_reducible refine Kd.C_drew ?_))); (case side2 => exact HC0_4.out); rintro e w34 ⟨rfl, hb⟩; have n0_ := Aside0.mk (blk_below (g := gb105) (o := .cells #[.slice A0_0 l0_0.length c0_0, .slice A0_1 l0_1.length c0_1, .int .i64 a0_2, .int .i64 a0_3, .slice A0_4 l0_4.length c0_4] 26 (0, 0)) (by (with_reducible repeat (first | refine blk_drewN ?_ _ | refine blk_drew ?_ | refine blk_alloc ?_ _)); exact BK105.out) hb); have n1_ := Aside0.mk (below_step (by repeat (first | (with_reducible first | exact HB.out | apply below_alloc | apply pw_below_drewN | apply below_drew1 | refine below_set ?_ GE105.out) | exact HB.out)) hb); clear BK105; clear HB; have BK105 := n0_; have HB := n1_; clear n0_ n1_; (try clear hb); (try clear hb2); (try clear hk); (try clear hi); have hcz35_0 : w34.cell? ⟨gb105, 0, none⟩ = some (.slice A0_0 l0_0.length c0_0) := (blk_cell BK105.out 0).trans rfl; have hcz35_1 : w34.cell? ⟨gb105, 1, none⟩ = some (.slice A0_1 l0_1.length c0_1) := (blk_cell BK105.out 1).trans rfl; have hcz35_2 : w34.cell? ⟨gb105, 2, none⟩ = some (.int .i64 a0_2) := (blk_cell BK105.out 2).trans rfl; have hcz35_3 : w34.cell? ⟨gb105, 3, none⟩ = some (.int .i64 a0_3) := (blk_cell BK105.out 3).trans rfl; have hcz35_4 : w34.cell? ⟨gb105, 4, none⟩ = some (.slice A0_4 l0_4.length c0_4) := (blk_cell BK105.out 4).trans rfl; have hfz35_0 := blk_frozen BK105.out 0; have hfz35_1 := blk_frozen BK105.out 1; have hfz35_2 := blk_frozen BK105.out 2; have hfz35_3 := blk_frozen BK105.out 3; have hfz35_4 := blk_frozen BK105.out 4) | (go_at_call 56; (with_reducible refine (peaveyref11_isRange.calls a0_2 a0_3 false _ A19.out).mono ?_); rintro e w36 ⟨rfl, hb⟩; have n0_ := Aside0.mk (blk_below (g := gb105) (o := .cells #[.slice A0_0 l0_0.length c0_0, .slice A0_1 l0_1.length c0_1, .int .i64 a0_2, .int .i64 a0_3, .slice A0_4 l0_4.length c0_4] 26 (0, 0)) (by (with_reducible repeat (first | refine blk_drewN ?_ _ | refine blk_drew ?_ | refine blk_alloc ?_ _)); exact BK105.out) hb); have n1_ := Aside0.mk (below_step (by repeat (first | (with_reducible first | exact HB.out | apply below_alloc | apply pw_below_drewN | apply below_drew1 | refine below_set ?_ GE105.out) | exact HB.out)) hb); clear BK105; clear HB; have BK105 := n0_; have HB := n1_; clear n0_ n1_; (try clear hb); (try clear hb2); (try clear hk); (try clear hi)))
                  go_ret
                  exact ⟨by first | rfl | (simp [errW_none, errW_some] <;> rfl) | (simp [*, errW_none, errW_some] <;> rfl), by repeat (first | (with_reducible first | exact HB.out | apply below_alloc | apply pw_below_drewN | apply below_drew1 | refine below_set ?_ GE105.out) | exact HB.out)⟩
              · replace c18 := Bool.eq_false_iff.mpr c18
                subst c18
                have H1 : (some 3) = some r := by rw [if_neg (show ¬ (false = true) by decide)] at H; exact H
                clear H
                have H := H1
                clear H1
                obtain rfl := Option.some.inj H
                have hcz37_0 : wc.cell? ⟨gb105, 0, none⟩ = some (.slice A0_0 l0_0.length c0_0) := (blk_cell BK105.out 0).trans rfl
                have hcz37_1 : wc.cell? ⟨gb105, 1, none⟩ = some (.slice A0_1 l0_1.length c0_1) := (blk_cell BK105.out 1).trans rfl
                have hcz37_2 : wc.cell? ⟨gb105, 2, none⟩ = some (.int .i64 a0_2) := (blk_cell BK105.out 2).trans rfl
                have hcz37_3 : wc.cell? ⟨gb105, 3, none⟩ = some (.int .i64 a0_3) := (blk_cell BK105.out 3).trans rfl
                have hcz37_4 : wc.cell? ⟨gb105, 4, none⟩ = some (.slice A0_4 l0_4.length c0_4) := (blk_cell BK105.out 4).trans rfl
                have hfz37_0 := blk_frozen BK105.out 0
                have hfz37_1 := blk_frozen BK105.out 1
                have hfz37_2 := blk_frozen BK105.out 2
                have hfz37_3 := blk_frozen BK105.out 3
                have hfz37_4 := blk_frozen BK105.out 4
                go_wp2_with (first | ((with_reducible refine gate_callee (f := 55) rfl ?_); refine goesL_ (some 38) rfl rfl Tryd.func55 (by kernel_rfl) rfl #[.slice A0_0 l0_0.length c0_0] rfl (by (try simp only [List.map_toArray, List.map_cons, List.map_nil]); first | done | rfl | (simp only [List.length_drop, List.length_take]; rfl)) ?_; (with_reducible refine (peaveyref11_areRanges.calls kj1 _ _ l0_0 true _ ?side1 ?side2 A13.out).mono ?_); (case side1 => repeat (first | exact (Kd.C_below HR0_0.out HB.out) | (with_reducible refine Kd.C_alloc ?_ _) | (with_reducible refine Kd.C_drewN ?_ _) | (with_reducible refine Kd.C_drew ?_))); (case side2 => exact HC0_0.out); rintro e w38 ⟨rfl, hb⟩; refine ⟨_, rfl, ?_⟩; have n0_ := Aside0.mk (blk_below (g := gb105) (o := .cells #[.slice A0_0 l0_0.length c0_0, .slice A0_1 l0_1.length c0_1, .int .i64 a0_2, .int .i64 a0_3, .slice A0_4 l0_4.length c0_4] 26 (0, 0)) (by (with_reducible repeat (first | refine blk_drewN ?_ _ | refine blk_drew ?_ | refine blk_alloc ?_ _)); exact BK105.out) hb); have n1_ := Aside0.mk (below_step (by repeat (first | (with_reducible first | exact HB.out | apply below_alloc | apply pw_below_drewN | apply below_drew1 | refine below_set ?_ GE105.out) | exact HB.out)) hb); clear BK105; clear HB; have BK105 := n0_; have HB := n1_; clear n0_ n1_; (try clear hb); (try clear hb2); (try clear hk); (try clear hi); have hcz39_0 : w38.cell? ⟨gb105, 0, none⟩ = some (.slice A0_0 l0_0.length c0_0) := (blk_cell BK105.out 0).trans rfl; have hcz39_1 : w38.cell? ⟨gb105, 1, none⟩ = some (.slice A0_1 l0_1.length c0_1) := (blk_cell BK105.out 1).trans rfl; have hcz39_2 : w38.cell? ⟨gb105, 2, none⟩ = some (.int .i64 a0_2) := (blk_cell BK105.out 2).trans rfl; have hcz39_3 : w38.cell? ⟨gb105, 3, none⟩ = some (.int .i64 a0_3) := (blk_cell BK105.out 3).trans rfl; have hcz39_4 : w38.cell? ⟨gb105, 4, none⟩ = some (.slice A0_4 l0_4.length c0_4) := (blk_cell BK105.out 4).trans rfl; have hfz39_0 := blk_frozen BK105.out 0; have hfz39_1 := blk_frozen BK105.out 1; have hfz39_2 := blk_frozen BK105.out 2; have hfz39_3 := blk_frozen BK105.out 3; have hfz39_4 := blk_frozen BK105.out 4) | (go_at_call 55; (with_reducible refine (peaveyref11_areRanges.calls kj1 _ _ l0_1 true _ ?side1 ?side2 A15.out).mono ?_); (case side1 => repeat (first | exact (Kd.C_below HR0_1.out HB.out) | (with_reducible refine Kd.C_alloc ?_ _) | (with_reducible refine Kd.C_drewN ?_ _) | (with_reducible refine Kd.C_drew ?_))); (case side2 => exact HC0_1.out); rintro e w40 ⟨rfl, hb⟩; have n0_ := Aside0.mk (blk_below (g := gb105) (o := .cells #[.slice A0_0 l0_0.length c0_0, .slice A0_1 l0_1.length c0_1, .int .i64 a0_2, .int .i64 a0_3, .slice A0_4 l0_4.length c0_4] 26 (0, 0)) (by (with_reducible repeat (first | refine blk_drewN ?_ _ | refine blk_drew ?_ | refine blk_alloc ?_ _)); exact BK105.out) hb); have n1_ := Aside0.mk (below_step (by repeat (first | (with_reducible first | exact HB.out | apply below_alloc | apply pw_below_drewN | apply below_drew1 | refine below_set ?_ GE105.out) | exact HB.out)) hb); clear BK105; clear HB; have BK105 := n0_; have HB := n1_; clear n0_ n1_; (try clear hb); (try clear hb2); (try clear hk); (try clear hi); have hcz41_0 : w40.cell? ⟨gb105, 0, none⟩ = some (.slice A0_0 l0_0.length c0_0) := (blk_cell BK105.out 0).trans rfl; have hcz41_1 : w40.cell? ⟨gb105, 1, none⟩ = some (.slice A0_1 l0_1.length c0_1) := (blk_cell BK105.out 1).trans rfl; have hcz41_2 : w40.cell? ⟨gb105, 2, none⟩ = some (.int .i64 a0_2) := (blk_cell BK105.out 2).trans rfl; have hcz41_3 : w40.cell? ⟨gb105, 3, none⟩ = some (.int .i64 a0_3) := (blk_cell BK105.out 3).trans rfl; have hcz41_4 : w40.cell? ⟨gb105, 4, none⟩ = some (.slice A0_4 l0_4.length c0_4) := (blk_cell BK105.out 4).trans rfl; have hfz41_0 := blk_frozen BK105.out 0; have hfz41_1 := blk_frozen BK105.out 1; have hfz41_2 := blk_frozen BK105.out 2; have hfz41_3 := blk_frozen BK105.out 3; have hfz41_4 := blk_frozen BK105.out 4) | (go_at_call 55; (with_reducible refine (peaveyref11_areRanges.calls kj1 _ _ l0_4 false _ ?side1 ?side2 A17.out).mono ?_); (case side1 => repeat (first | exact (Kd.C_below HR0_4.out HB.out) | (with_reducible refine Kd.C_alloc ?_ _) | (with_reducible refine Kd.C_drewN ?_ _) | (with_reducible refine Kd.C_drew ?_))); (case side2 => exact HC0_4.out); rintro e w42 ⟨rfl, hb⟩; have n0_ := Aside0.mk (blk_below (g := gb105) (o := .cells #[.slice A0_0 l0_0.length c0_0, .slice A0_1 l0_1.length c0_1, .int .i64 a0_2, .int .i64 a0_3, .slice A0_4 l0_4.length c0_4] 26 (0, 0)) (by (with_reducible repeat (first | refine blk_drewN ?_ _ | refine blk_drew ?_ | refine blk_alloc ?_ _)); exact BK105.out) hb); have n1_ := Aside0.mk (below_step (by repeat (first | (with_reducible first | exact HB.out | apply below_alloc | apply pw_below_drewN | apply below_drew1 | refine below_set ?_ GE105.out) | exact HB.out)) hb); clear BK105; clear HB; have BK105 := n0_; have HB := n1_; clear n0_ n1_; (try clear hb); (try clear hb2); (try clear hk); (try clear hi)))
                go_ret
                exact ⟨by first | rfl | (simp [errW_none, errW_some] <;> rfl) | (simp [*, errW_none, errW_some] <;> rfl), by repeat (first | (with_reducible first | exact HB.out | apply below_alloc | apply pw_below_drewN | apply below_drew1 | refine below_set ?_ GE105.out) | exact HB.out)⟩
            · replace c16 := Bool.eq_false_iff.mpr c16
              subst c16
              have H1 : (some 3) = some r := by rw [if_neg (show ¬ (false = true) by decide)] at H; exact H
              clear H
              have H := H1
              clear H1
              obtain rfl := Option.some.inj H
              have hcz43_0 : wc.cell? ⟨gb105, 0, none⟩ = some (.slice A0_0 l0_0.length c0_0) := (blk_cell BK105.out 0).trans rfl
              have hcz43_1 : wc.cell? ⟨gb105, 1, none⟩ = some (.slice A0_1 l0_1.length c0_1) := (blk_cell BK105.out 1).trans rfl
              have hcz43_2 : wc.cell? ⟨gb105, 2, none⟩ = some (.int .i64 a0_2) := (blk_cell BK105.out 2).trans rfl
              have hcz43_3 : wc.cell? ⟨gb105, 3, none⟩ = some (.int .i64 a0_3) := (blk_cell BK105.out 3).trans rfl
              have hcz43_4 : wc.cell? ⟨gb105, 4, none⟩ = some (.slice A0_4 l0_4.length c0_4) := (blk_cell BK105.out 4).trans rfl
              have hfz43_0 := blk_frozen BK105.out 0
              have hfz43_1 := blk_frozen BK105.out 1
              have hfz43_2 := blk_frozen BK105.out 2
              have hfz43_3 := blk_frozen BK105.out 3
              have hfz43_4 := blk_frozen BK105.out 4
              go_wp2_with (first | ((with_reducible refine gate_callee (f := 55) rfl ?_); refine goesL_ (some 38) rfl rfl Tryd.func55 (by kernel_rfl) rfl #[.slice A0_0 l0_0.length c0_0] rfl (by (try simp only [List.map_toArray, List.map_cons, List.map_nil]); first | done | rfl | (simp only [List.length_drop, List.length_take]; rfl)) ?_; (with_reducible refine (peaveyref11_areRanges.calls kj1 _ _ l0_0 true _ ?side1 ?side2 A13.out).mono ?_); (case side1 => repeat (first | exact (Kd.C_below HR0_0.out HB.out) | (with_reducible refine Kd.C_alloc ?_ _) | (with_reducible refine Kd.C_drewN ?_ _) | (with_reducible refine Kd.C_drew ?_))); (case side2 => exact HC0_0.out); rintro e w44 ⟨rfl, hb⟩; refine ⟨_, rfl, ?_⟩; have n0_ := Aside0.mk (blk_below (g := gb105) (o := .cells #[.slice A0_0 l0_0.length c0_0, .slice A0_1 l0_1.length c0_1, .int .i64 a0_2, .int .i64 a0_3, .slice A0_4 l0_4.length c0_4] 26 (0, 0)) (by (with_reducible repeat (first | refine blk_drewN ?_ _ | refine blk_drew ?_ | refine blk_alloc ?_ _)); exact BK105.out) hb); have n1_ := Aside0.mk (below_step (by repeat (first | (with_reducible first | exact HB.out | apply below_alloc | apply pw_below_drewN | apply below_drew1 | refine below_set ?_ GE105.out) | exact HB.out)) hb); clear BK105; clear HB; have BK105 := n0_; have HB := n1_; clear n0_ n1_; (try clear hb); (try clear hb2); (try clear hk); (try clear hi); have hcz45_0 : w44.cell? ⟨gb105, 0, none⟩ = some (.slice A0_0 l0_0.length c0_0) := (blk_cell BK105.out 0).trans rfl; have hcz45_1 : w44.cell? ⟨gb105, 1, none⟩ = some (.slice A0_1 l0_1.length c0_1) := (blk_cell BK105.out 1).trans rfl; have hcz45_2 : w44.cell? ⟨gb105, 2, none⟩ = some (.int .i64 a0_2) := (blk_cell BK105.out 2).trans rfl; have hcz45_3 : w44.cell? ⟨gb105, 3, none⟩ = some (.int .i64 a0_3) := (blk_cell BK105.out 3).trans rfl; have hcz45_4 : w44.cell? ⟨gb105, 4, none⟩ = some (.slice A0_4 l0_4.length c0_4) := (blk_cell BK105.out 4).trans rfl; have hfz45_0 := blk_frozen BK105.out 0; have hfz45_1 := blk_frozen BK105.out 1; have hfz45_2 := blk_frozen BK105.out 2; have hfz45_3 := blk_frozen BK105.out 3; have hfz45_4 := blk_frozen BK105.out 4) | (go_at_call 55; (with_reducible refine (peaveyref11_areRanges.calls kj1 _ _ l0_1 false _ ?side1 ?side2 A15.out).mono ?_); (case side1 => repeat (first | exact (Kd.C_below HR0_1.out HB.out) | (with_reducible refine Kd.C_alloc ?_ _) | (with_reducible refine Kd.C_drewN ?_ _) | (with_reducible refine Kd.C_drew ?_))); (case side2 => exact HC0_1.out); rintro e w46 ⟨rfl, hb⟩; have n0_ := Aside0.mk (blk_below (g := gb105) (o := .cells #[.slice A0_0 l0_0.length c0_0, .slice A0_1 l0_1.length c0_1, .int .i64 a0_2, .int .i64 a0_3, .slice A0_4 l0_4.length c0_4] 26 (0, 0)) (by (with_reducible repeat (first | refine blk_drewN ?_ _ | refine blk_drew ?_ | refine blk_alloc ?_ _)); exact BK105.out) hb); have n1_ := Aside0.mk (below_step (by repeat (first | (with_reducible first | exact HB.out | apply below_alloc | apply pw_below_drewN | apply below_drew1 | refine below_set ?_ GE105.out) | exact HB.out)) hb); clear BK105; clear HB; have BK105 := n0_; have HB := n1_; clear n0_ n1_; (try clear hb); (try clear hb2); (try clear hk); (try clear hi)))
              go_ret
              exact ⟨by first | rfl | (simp [errW_none, errW_some] <;> rfl) | (simp [*, errW_none, errW_some] <;> rfl), by repeat (first | (with_reducible first | exact HB.out | apply below_alloc | apply pw_below_drewN | apply below_drew1 | refine below_set ?_ GE105.out) | exact HB.out)⟩
          · replace c14 := Bool.eq_false_iff.mpr c14
            subst c14
            have H1 : (some 3) = some r := by rw [if_neg (show ¬ (false = true) by decide)] at H; exact H
            clear H
            have H := H1
            clear H1
            obtain rfl := Option.some.inj H
            have hcz47_0 : wc.cell? ⟨gb105, 0, none⟩ = some (.slice A0_0 l0_0.length c0_0) := (blk_cell BK105.out 0).trans rfl
            have hcz47_1 : wc.cell? ⟨gb105, 1, none⟩ = some (.slice A0_1 l0_1.length c0_1) := (blk_cell BK105.out 1).trans rfl
            have hcz47_2 : wc.cell? ⟨gb105, 2, none⟩ = some (.int .i64 a0_2) := (blk_cell BK105.out 2).trans rfl
            have hcz47_3 : wc.cell? ⟨gb105, 3, none⟩ = some (.int .i64 a0_3) := (blk_cell BK105.out 3).trans rfl
            have hcz47_4 : wc.cell? ⟨gb105, 4, none⟩ = some (.slice A0_4 l0_4.length c0_4) := (blk_cell BK105.out 4).trans rfl
            have hfz47_0 := blk_frozen BK105.out 0
            have hfz47_1 := blk_frozen BK105.out 1
            have hfz47_2 := blk_frozen BK105.out 2
            have hfz47_3 := blk_frozen BK105.out 3
            have hfz47_4 := blk_frozen BK105.out 4
            go_wp2_with (first | ((with_reducible refine gate_callee (f := 55) rfl ?_); refine goesL_ (some 38) rfl rfl Tryd.func55 (by kernel_rfl) rfl #[.slice A0_0 l0_0.length c0_0] rfl (by (try simp only [List.map_toArray, List.map_cons, List.map_nil]); first | done | rfl | (simp only [List.length_drop, List.length_take]; rfl)) ?_; (with_reducible refine (peaveyref11_areRanges.calls kj1 _ _ l0_0 false _ ?side1 ?side2 A13.out).mono ?_); (case side1 => repeat (first | exact (Kd.C_below HR0_0.out HB.out) | (with_reducible refine Kd.C_alloc ?_ _) | (with_reducible refine Kd.C_drewN ?_ _) | (with_reducible refine Kd.C_drew ?_))); (case side2 => exact HC0_0.out); rintro e w48 ⟨rfl, hb⟩; refine ⟨_, rfl, ?_⟩; have n0_ := Aside0.mk (blk_below (g := gb105) (o := .cells #[.slice A0_0 l0_0.length c0_0, .slice A0_1 l0_1.length c0_1, .int .i64 a0_2, .int .i64 a0_3, .slice A0_4 l0_4.length c0_4] 26 (0, 0)) (by (with_reducible repeat (first | refine blk_drewN ?_ _ | refine blk_drew ?_ | refine blk_alloc ?_ _)); exact BK105.out) hb); have n1_ := Aside0.mk (below_step (by repeat (first | (with_reducible first | exact HB.out | apply below_alloc | apply pw_below_drewN | apply below_drew1 | refine below_set ?_ GE105.out) | exact HB.out)) hb); clear BK105; clear HB; have BK105 := n0_; have HB := n1_; clear n0_ n1_; (try clear hb); (try clear hb2); (try clear hk); (try clear hi)))
            go_ret
            exact ⟨by first | rfl | (simp [errW_none, errW_some] <;> rfl) | (simp [*, errW_none, errW_some] <;> rfl), by repeat (first | (with_reducible first | exact HB.out | apply below_alloc | apply pw_below_drewN | apply below_drew1 | refine below_set ?_ GE105.out) | exact HB.out)⟩
        · rw [if_neg c12] at H
          have c12b0 : ((l0_4.length : Int) == (wrap64 ((l0_0.length : Int) * (l0_1.length : Int)))) = false := beq_eq_false_iff_ne.mpr c12
          have c12b1 : ((l0_4.length : Int) != (wrap64 ((l0_0.length : Int) * (l0_1.length : Int)))) = true := bne_iff_ne.mpr c12
          obtain rfl := Option.some.inj H
          have hcz49_0 : wc.cell? ⟨gb105, 0, none⟩ = some (.slice A0_0 l0_0.length c0_0) := (blk_cell BK105.out 0).trans rfl
          have hcz49_1 : wc.cell? ⟨gb105, 1, none⟩ = some (.slice A0_1 l0_1.length c0_1) := (blk_cell BK105.out 1).trans rfl
          have hcz49_2 : wc.cell? ⟨gb105, 2, none⟩ = some (.int .i64 a0_2) := (blk_cell BK105.out 2).trans rfl
          have hcz49_3 : wc.cell? ⟨gb105, 3, none⟩ = some (.int .i64 a0_3) := (blk_cell BK105.out 3).trans rfl
          have hcz49_4 : wc.cell? ⟨gb105, 4, none⟩ = some (.slice A0_4 l0_4.length c0_4) := (blk_cell BK105.out 4).trans rfl
          have hfz49_0 := blk_frozen BK105.out 0
          have hfz49_1 := blk_frozen BK105.out 1
          have hfz49_2 := blk_frozen BK105.out 2
          have hfz49_3 := blk_frozen BK105.out 3
          have hfz49_4 := blk_frozen BK105.out 4
          go_wp2
          go_ret
          exact ⟨by first | rfl | (simp [errW_none, errW_some] <;> rfl) | (simp [*, errW_none, errW_some] <;> rfl), by repeat (first | (with_reducible first | exact HB.out | apply below_alloc | apply pw_below_drewN | apply below_drew1 | refine below_set ?_ GE105.out) | exact HB.out)⟩
def peaveyref11_IsTable.l0 : Nat → List Int → Int → List (S24) → List (S24) → Int → Int → List (S24) → Option (Int)
  | 0, _, _, _, _, _, _, _ => none
  | k + 1, x1, x5, x111000, x111001, x111002, x111003, x111004 => if x5 < (x1.length : Int) then (if 0 ≤ x5 then (if x5 < (x111004.length : Int) then (if (rd x1 x5) < ((rd_T24 x111004 x5).f0) then (some 3) else (if (rd x1 x5) > ((rd_T24 x111004 x5).f1) then (some 3) else (peaveyref11_IsTable.l0 k x1 (wrap64 (x5 + 1)) x111000 x111001 x111002 x111003 x111004))) else (none)) else (none)) else (some 0)
def peaveyref11_IsTable.f (k : Nat) (l0_0 : List (S24)) (l0_1 : List (S24)) (a0_2 : Int) (a0_3 : Int) (l0_4 : List (S24)) (l1 : List Int) : Option (Int) := if (l1.length : Int) = (l0_4.length : Int) then (peaveyref11_IsTable.l0 k l1 0 l0_0 l0_1 a0_2 a0_3 l0_4) else (some 15)
set_option maxHeartbeats 8000000 in
set_option maxRecDepth 100000 in
theorem peaveyref11_IsTable.calls (k : Nat) (A0_0 : Option Addr) (c0_0 : Nat) (l0_0 : List (S24)) (A0_1 : Option Addr) (c0_1 : Nat) (l0_1 : List (S24)) (a0_2 : Int) (a0_3 : Int) (A0_4 : Option Addr) (c0_4 : Nat) (l0_4 : List (S24)) (A1 : Option Addr) (c1 : Nat) (l1 : List Int) (r : Int) (w : World) (hr0_0 : Kd.C k24 w A0_0 l0_0.length l0_0) (hc0_0 : l0_0.length ≤ c0_0) (hr0_1 : Kd.C k24 w A0_1 l0_1.length l0_1) (hc0_1 : l0_1.length ≤ c0_1) (hr0_4 : Kd.C k24 w A0_4 l0_4.length l0_4) (hc0_4 : l0_4.length ≤ c0_4) (hr1 : Kd.C (Kd.int .i64) w A1 l1.length l1) (hc1 : l1.length ≤ c1) (h : peaveyref11_IsTable.f k l0_0 l0_1 a0_2 a0_3 l0_4 l1 = some r) :
    Calls Tryd.prog 41 #[.agg #[.slice A0_0 l0_0.length c0_0, .slice A0_1 l0_1.length c0_1, .int .i64 a0_2, .int .i64 a0_3, .slice A0_4 l0_4.length c0_4], .slice A1 l1.length c1] w fun e w' => e = .returned (.int .i64 r) ∧ Below w.heap.size w w' := by
  have hu26 := Tryd.underlying26
  have HR0_0 := Aside0.mk hr0_0
  have HC0_0 := Aside0.mk hc0_0
  clear hr0_0 hc0_0
  have HR0_1 := Aside0.mk hr0_1
  have HC0_1 := Aside0.mk hc0_1
  clear hr0_1 hc0_1
  have HR0_4 := Aside0.mk hr0_4
  have HC0_4 := Aside0.mk hc0_4
  clear hr0_4 hc0_4
  have HR1 := Aside0.mk hr1
  have HC1 := Aside0.mk hc1
  clear hr1 hc1
  have HB := Aside0.mk (Below.refl w.heap.size w)
  have H : (if (l1.length : Int) = (l0_4.length : Int) then (peaveyref11_IsTable.l0 k l1 0 l0_0 l0_1 a0_2 a0_3 l0_4) else (some 15)) = some r := h
  clear h
  by_cases c3 : (l1.length : Int) = (l0_4.length : Int)
  · rw [if_pos c3] at H
    have c3b0 : ((l1.length : Int) == (l0_4.length : Int)) = true := beq_iff_eq.mpr c3
    have c3b1 : ((l1.length : Int) != (l0_4.length : Int)) = false := bne_eq_false_iff_eq.mpr c3
    have c3b2 : (l1.length == l0_4.length) = true := by first | simpa using c3 | (simp at c3 ⊢; omega)
    clear c3
    have H' := Aside0.mk H
    clear H
    go_enter Tryd.func41, Tryd.ntmps41
    go_wp2_with (first | ((with_reducible refine gate_dst (N := 2) rfl ?_); refine box_event ?hg (N := 2) ?hd (cs := #[.slice A0_0 l0_0.length c0_0, .slice A0_1 l0_1.length c0_1, .int .i64 a0_2, .int .i64 a0_3, .slice A0_4 l0_4.length c0_4]) (t := 26) ?hr ?_; (case hd => rfl); (case hg => rfl); (case hr => first | (go_simp; done) | (go_simp; rfl)); intro gb110 hg w4 hbox hb; have n0_ := Aside0.mk (below_step (by repeat (first | (with_reducible first | exact HB.out | apply below_alloc | apply pw_below_drewN | apply below_drew1) | exact HB.out)) hb); have n1_ := Aside0.mk (hbox); have n2_ := Aside0.mk ((by rw [hg]; exact (below_size (by repeat (first | (with_reducible first | exact HB.out | apply below_alloc | apply pw_below_drewN | apply below_drew1) | exact HB.out))) : w.heap.size ≤ gb110)); have n3_ := Aside0.mk ((by rw [hg]; exact (below_size (by repeat (first | (with_reducible first | exact HB.out | apply below_alloc | apply pw_below_drewN | apply below_drew1) | exact HB.out))) : w.heap.size ≤ gb110)); clear HB; have HB := n0_; have BK110 := n1_; have GW110 := n2_; have GE110 := n3_; clear n0_ n1_ n2_ n3_; clear hb hbox hg; have hcz5_0 : w4.cell? ⟨gb110, 0, none⟩ = some (.slice A0_0 l0_0.length c0_0) := (blk_cell BK110.out 0).trans rfl; have hcz5_1 : w4.cell? ⟨gb110, 1, none⟩ = some (.slice A0_1 l0_1.length c0_1) := (blk_cell BK110.out 1).trans rfl; have hcz5_2 : w4.cell? ⟨gb110, 2, none⟩ = some (.int .i64 a0_2) := (blk_cell BK110.out 2).trans rfl; have hcz5_3 : w4.cell? ⟨gb110, 3, none⟩ = some (.int .i64 a0_3) := (blk_cell BK110.out 3).trans rfl; have hcz5_4 : w4.cell? ⟨gb110, 4, none⟩ = some (.slice A0_4 l0_4.length c0_4) := (blk_cell BK110.out 4).trans rfl; have hfz5_0 := blk_frozen BK110.out 0; have hfz5_1 := blk_frozen BK110.out 1; have hfz5_2 := blk_frozen BK110.out 2; have hfz5_3 := blk_frozen BK110.out 3; have hfz5_4 := blk_frozen BK110.out 4))
    repeat (go_quiet (first | ((with_reducible refine gate_dst (N := 2) rfl ?_); refine box_event ?hg (N := 2) ?hd (cs := #[.slice A0_0 l0_0.length c0_0, .slice A0_1 l0_1.length c0_1, .int .i64 a0_2, .int .i64 a0_3, .slice A0_4 l0_4.length c0_4]) (t := 26) ?hr ?_; (case hd => rfl); (case hg => rfl); (case hr => first | (go_simp; done) | (go_simp; rfl)); intro gb110 hg w4 hbox hb; have n0_ := Aside0.mk (below_step (by repeat (first | (with_reducible first | exact HB.out | apply below_alloc | apply pw_below_drewN | apply below_drew1) | exact HB.out)) hb); have n1_ := Aside0.mk (hbox); have n2_ := Aside0.mk ((by rw [hg]; exact (below_size (by repeat (first | (with_reducible first | exact HB.out | apply below_alloc | apply pw_below_drewN | apply below_drew1) | exact HB.out))) : w.heap.size ≤ gb110)); have n3_ := Aside0.mk ((by rw [hg]; exact (below_size (by repeat (first | (with_reducible first | exact HB.out | apply below_alloc | apply pw_below_drewN | apply below_drew1) | exact HB.out))) : w.heap.size ≤ gb110)); clear HB; have HB := n0_; have BK110 := n1_; have GW110 := n2_; have GE110 := n3_; clear n0_ n1_ n2_ n3_; clear hb hbox hg; have hcz5_0 : w4.cell? ⟨gb110, 0, none⟩ = some (.slice A0_0 l0_0.length c0_0) := (blk_cell BK110.out 0).trans rfl; have hcz5_1 : w4.cell? ⟨gb110, 1, none⟩ = some (.slice A0_1 l0_1.length c0_1) := (blk_cell BK110.out 1).trans rfl; have hcz5_2 : w4.cell? ⟨gb110, 2, none⟩ = some (.int .i64 a0_2) := (blk_cell BK110.out 2).trans rfl; have hcz5_3 : w4.cell? ⟨gb110, 3, none⟩ = some (.int .i64 a0_3) := (blk_cell BK110.out 3).trans rfl; have hcz5_4 : w4.cell? ⟨gb110, 4, none⟩ = some (.slice A0_4 l0_4.length c0_4) := (blk_cell BK110.out 4).trans rfl; have hfz5_0 := blk_frozen BK110.out 0; have hfz5_1 := blk_frozen BK110.out 1; have hfz5_2 := blk_frozen BK110.out 2; have hfz5_3 := blk_frozen BK110.out 3; have hfz5_4 := blk_frozen BK110.out 4)); try go_wp2_with (first | ((with_reducible refine gate_dst (N := 2) rfl ?_); refine box_event ?hg (N := 2) ?hd (cs := #[.slice A0_0 l0_0.length c0_0, .slice A0_1 l0_1.length c0_1, .int .i64 a0_2, .int .i64 a0_3, .slice A0_4 l0_4.length c0_4]) (t := 26) ?hr ?_; (case hd => rfl); (case hg => rfl); (case hr => first | (go_simp; done) | (go_simp; rfl)); intro gb110 hg w4 hbox hb; have n0_ := Aside0.mk (below_step (by repeat (first | (with_reducible first | exact HB.out | apply below_alloc | apply pw_below_drewN | apply below_drew1) | exact HB.out)) hb); have n1_ := Aside0.mk (hbox); have n2_ := Aside0.mk ((by rw [hg]; exact (below_size (by repeat (first | (with_reducible first | exact HB.out | apply below_alloc | apply pw_below_drewN | apply below_drew1) | exact HB.out))) : w.heap.size ≤ gb110)); have n3_ := Aside0.mk ((by rw [hg]; exact (below_size (by repeat (first | (with_reducible first | exact HB.out | apply below_alloc | apply pw_below_drewN | apply below_drew1) | exact HB.out))) : w.heap.size ≤ gb110)); clear HB; have HB := n0_; have BK110 := n1_; have GW110 := n2_; have GE110 := n3_; clear n0_ n1_ n2_ n3_; clear hb hbox hg; have hcz5_0 : w4.cell? ⟨gb110, 0, none⟩ = some (.slice A0_0 l0_0.length c0_0) := (blk_cell BK110.out 0).trans rfl; have hcz5_1 : w4.cell? ⟨gb110, 1, none⟩ = some (.slice A0_1 l0_1.length c0_1) := (blk_cell BK110.out 1).trans rfl; have hcz5_2 : w4.cell? ⟨gb110, 2, none⟩ = some (.int .i64 a0_2) := (blk_cell BK110.out 2).trans rfl; have hcz5_3 : w4.cell? ⟨gb110, 3, none⟩ = some (.int .i64 a0_3) := (blk_cell BK110.out 3).trans rfl; have hcz5_4 : w4.cell? ⟨gb110, 4, none⟩ = some (.slice A0_4 l0_4.length c0_4) := (blk_cell BK110.out 4).trans rfl; have hfz5_0 := blk_frozen BK110.out 0; have hfz5_1 := blk_frozen BK110.out 1; have hfz5_2 := blk_frozen BK110.out 2; have hfz5_3 := blk_frozen BK110.out 3; have hfz5_4 := blk_frozen BK110.out 4)))
    go_loopg [5] k (fun kq v5 w' => ∃ (x5_1 : Int), v5 = .int .i64 x5_1 ∧ Aside0 (peaveyref11_IsTable.l0 kq l1 x5_1 l0_0 l0_1 a0_2 a0_3 l0_4 = some r) ∧ Aside0 (kq ≤ k) ∧ Aside0 (w'.heap[gb110]? = some (.cells #[(.slice A0_0 l0_0.length c0_0), (.slice A0_1 l0_1.length c0_1), .int .i64 a0_2, .int .i64 a0_3, (.slice A0_4 l0_4.length c0_4)] 26 (0, 0))) ∧ Aside0 (Below w.heap.size w w'))
    case atStart => exact ⟨(0), (by first | rfl | (simp; done) | (simp [*]; done)), H', ⟨Nat.le_refl _⟩, ⟨by (with_reducible repeat (first | refine blk_drewN ?_ _ | refine blk_drew ?_ | refine blk_alloc ?_ _)); exact BK110.out⟩, ⟨by repeat (first | (with_reducible first | exact HB.out | apply below_alloc | apply pw_below_drewN | apply below_drew1 | refine below_set ?_ GE110.out) | exact HB.out)⟩⟩
    case round =>
      clear H'
      try clear c1
      try clear p2
      try clear c3
      try clear c3b0
      try clear c3b1
      try clear c3b2
      try clear c4
      try clear hcz5_0
      try clear hcz5_1
      try clear hcz5_2
      try clear hcz5_3
      try clear hcz5_4
      try clear hfz5_0
      try clear hfz5_1
      try clear hfz5_2
      try clear hfz5_3
      try clear hfz5_4
      obtain ⟨x5_1, rfl, HA, HK1, BK110, HB⟩ := hrel
      cases gk with
      | zero => exact absurd HA.out (by simp [peaveyref11_IsTable.l0])
      | succ k1 =>
        have H := HA.out
        clear HA
        simp only [peaveyref11_IsTable.l0] at H
        by_cases c6 : x5_1 < (l1.length : Int)
        · rw [if_pos c6] at H
          have c6b0 : decide (x5_1 < (l1.length : Int)) = true := decide_eq_true c6
          clear c6
          by_cases c7 : 0 ≤ x5_1
          · rw [if_pos c7] at H
            have c7b0 : decide (0 ≤ x5_1) = true := decide_eq_true c7
            clear c7
            by_cases c8 : x5_1 < (l0_4.length : Int)
            · rw [if_pos c8] at H
              have c8b0 : decide (x5_1 < (l0_4.length : Int)) = true := decide_eq_true c8
              clear c8
              by_cases c9 : (rd l1 x5_1) < ((rd_T24 l0_4 x5_1).f0)
              · rw [if_pos c9] at H
                have c9b0 : decide ((rd l1 x5_1) < ((rd_T24 l0_4 x5_1).f0)) = true := decide_eq_true c9
                clear c9
                obtain rfl := Option.some.inj H
                have p111 : 0 ≤ (x5_1 : Int) := of_decide_eq_true (by first | (with_reducible assumption) | assumption)
                have q111 : x5_1 < (l1.length : Int) := of_decide_eq_true (by first | (with_reducible assumption) | assumption)
                obtain ⟨ad111, e111, hx111_0⟩ := Kd.at_int HR1.out x5_1 p111 q111
                cases e111
                replace hx111_0 := (HB.out.cell (World.block_lt_of_cell? w _ hx111_0)).trans hx111_0
                replace p111 := eq_true p111
                replace q111 := eq_true q111
                have hcz10_0 : wr.cell? ⟨gb110, 0, none⟩ = some (.slice A0_0 l0_0.length c0_0) := (blk_cell BK110.out 0).trans rfl
                have hcz10_1 : wr.cell? ⟨gb110, 1, none⟩ = some (.slice A0_1 l0_1.length c0_1) := (blk_cell BK110.out 1).trans rfl
                have hcz10_2 : wr.cell? ⟨gb110, 2, none⟩ = some (.int .i64 a0_2) := (blk_cell BK110.out 2).trans rfl
                have hcz10_3 : wr.cell? ⟨gb110, 3, none⟩ = some (.int .i64 a0_3) := (blk_cell BK110.out 3).trans rfl
                have hcz10_4 : wr.cell? ⟨gb110, 4, none⟩ = some (.slice A0_4 l0_4.length c0_4) := (blk_cell BK110.out 4).trans rfl
                have hfz10_0 := blk_frozen BK110.out 0
                have hfz10_1 := blk_frozen BK110.out 1
                have hfz10_2 := blk_frozen BK110.out 2
                have hfz10_3 := blk_frozen BK110.out 3
                have hfz10_4 := blk_frozen BK110.out 4
                have p112 : 0 ≤ (x5_1 : Int) := of_decide_eq_true (by first | (with_reducible assumption) | assumption)
                have q112 : x5_1 < (l0_4.length : Int) := of_decide_eq_true (by first | (with_reducible assumption) | assumption)
                obtain ⟨ad112, e112, hx112_0, hx112_1⟩ := at_T24 HR0_4.out x5_1 p112 q112
                cases e112
                replace hx112_0 := (HB.out.cell (World.block_lt_of_cell? w _ hx112_0)).trans hx112_0
                replace hx112_1 := (HB.out.cell (World.block_lt_of_cell? w _ hx112_1)).trans hx112_1
                replace p112 := eq_true p112
                replace q112 := eq_true q112
                go_wp2
                repeat (go_quiet (fail); try go_wp2)
                go_ret
                exact ⟨by first | rfl | (simp [errW_none, errW_some] <;> rfl) | (simp [*, errW_none, errW_some] <;> rfl), by repeat (first | (with_reducible first | exact HB.out | apply below_alloc | apply pw_below_drewN | apply below_drew1 | refine below_set ?_ GE110.out) | exact HB.out)⟩
              · rw [if_neg c9] at H
                have c9b0 : decide ((rd l1 x5_1) < ((rd_T24 l0_4 x5_1).f0)) = false := decide_eq_false c9
                clear c9
                by_cases c11 : (rd l1 x5_1) > ((rd_T24 l0_4 x5_1).f1)
                · rw [if_pos c11] at H
                  have c11b0 : decide (((rd_T24 l0_4 x5_1).f1) < (rd l1 x5_1)) = true := decide_eq_true c11
                  clear c11
                  obtain rfl := Option.some.inj H
                  have p111 : 0 ≤ (x5_1 : Int) := of_decide_eq_true (by first | (with_reducible assumption) | assumption)
                  have q111 : x5_1 < (l1.length : Int) := of_decide_eq_true (by first | (with_reducible assumption) | assumption)
                  obtain ⟨ad111, e111, hx111_0⟩ := Kd.at_int HR1.out x5_1 p111 q111
                  cases e111
                  replace hx111_0 := (HB.out.cell (World.block_lt_of_cell? w _ hx111_0)).trans hx111_0
                  replace p111 := eq_true p111
                  replace q111 := eq_true q111
                  have hcz12_0 : wr.cell? ⟨gb110, 0, none⟩ = some (.slice A0_0 l0_0.length c0_0) := (blk_cell BK110.out 0).trans rfl
                  have hcz12_1 : wr.cell? ⟨gb110, 1, none⟩ = some (.slice A0_1 l0_1.length c0_1) := (blk_cell BK110.out 1).trans rfl
                  have hcz12_2 : wr.cell? ⟨gb110, 2, none⟩ = some (.int .i64 a0_2) := (blk_cell BK110.out 2).trans rfl
                  have hcz12_3 : wr.cell? ⟨gb110, 3, none⟩ = some (.int .i64 a0_3) := (blk_cell BK110.out 3).trans rfl
                  have hcz12_4 : wr.cell? ⟨gb110, 4, none⟩ = some (.slice A0_4 l0_4.length c0_4) := (blk_cell BK110.out 4).trans rfl
                  have hfz12_0 := blk_frozen BK110.out 0
                  have hfz12_1 := blk_frozen BK110.out 1
                  have hfz12_2 := blk_frozen BK110.out 2
                  have hfz12_3 := blk_frozen BK110.out 3
                  have hfz12_4 := blk_frozen BK110.out 4
                  have p112 : 0 ≤ (x5_1 : Int) := of_decide_eq_true (by first | (with_reducible assumption) | assumption)
                  have q112 : x5_1 < (l0_4.length : Int) := of_decide_eq_true (by first | (with_reducible assumption) | assumption)
                  obtain ⟨ad112, e112, hx112_0, hx112_1⟩ := at_T24 HR0_4.out x5_1 p112 q112
                  cases e112
                  replace hx112_0 := (HB.out.cell (World.block_lt_of_cell? w _ hx112_0)).trans hx112_0
                  replace hx112_1 := (HB.out.cell (World.block_lt_of_cell? w _ hx112_1)).trans hx112_1
                  replace p112 := eq_true p112
                  replace q112 := eq_true q112
                  have p113 : 0 ≤ (x5_1 : Int) := of_decide_eq_true (by first | (with_reducible assumption) | assumption)
                  have q113 : x5_1 < (l1.length : Int) := of_decide_eq_true (by first | (with_reducible assumption) | assumption)
                  obtain ⟨ad113, e113, hx113_0⟩ := Kd.at_int HR1.out x5_1 p113 q113
                  obtain rfl : ad111 = ad113 := (by injection e113)
                  replace hx113_0 := (HB.out.cell (World.block_lt_of_cell? w _ hx113_0)).trans hx113_0
                  replace p113 := eq_true p113
                  replace q113 := eq_true q113
                  have p114 : 0 ≤ (x5_1 : Int) := of_decide_eq_true (by first | (with_reducible assumption) | assumption)
                  have q114 : x5_1 < (l0_4.length : Int) := of_decide_eq_true (by first | (with_reducible assumption) | assumption)
                  obtain ⟨ad114, e114, hx114_0, hx114_1⟩ := at_T24 HR0_4.out x5_1 p114 q114
                  obtain rfl : ad112 = ad114 := (by injection e114)
                  replace hx114_0 := (HB.out.cell (World.block_lt_of_cell? w _ hx114_0)).trans hx114_0
                  replace hx114_1 := (HB.out.cell (World.block_lt_of_cell? w _ hx114_1)).trans hx114_1
                  replace p114 := eq_true p114
                  replace q114 := eq_true q114
                  go_wp2
                  repeat (go_quiet (fail); try go_wp2)
                  go_ret
                  exact ⟨by first | rfl | (simp [errW_none, errW_some] <;> rfl) | (simp [*, errW_none, errW_some] <;> rfl), by repeat (first | (with_reducible first | exact HB.out | apply below_alloc | apply pw_below_drewN | apply below_drew1 | refine below_set ?_ GE110.out) | exact HB.out)⟩
                · rw [if_neg c11] at H
                  have c11b0 : decide (((rd_T24 l0_4 x5_1).f1) < (rd l1 x5_1)) = false := decide_eq_false c11
                  clear c11
                  have H' := Aside0.mk H
                  clear H
                  have p111 : 0 ≤ (x5_1 : Int) := of_decide_eq_true (by first | (with_reducible assumption) | assumption)
                  have q111 : x5_1 < (l1.length : Int) := of_decide_eq_true (by first | (with_reducible assumption) | assumption)
                  obtain ⟨ad111, e111, hx111_0⟩ := Kd.at_int HR1.out x5_1 p111 q111
                  cases e111
                  replace hx111_0 := (HB.out.cell (World.block_lt_of_cell? w _ hx111_0)).trans hx111_0
                  replace p111 := eq_true p111
                  replace q111 := eq_true q111
                  have hcz13_0 : wr.cell? ⟨gb110, 0, none⟩ = some (.slice A0_0 l0_0.length c0_0) := (blk_cell BK110.out 0).trans rfl
                  have hcz13_1 : wr.cell? ⟨gb110, 1, none⟩ = some (.slice A0_1 l0_1.length c0_1) := (blk_cell BK110.out 1).trans rfl
                  have hcz13_2 : wr.cell? ⟨gb110, 2, none⟩ = some (.int .i64 a0_2) := (blk_cell BK110.out 2).trans rfl
                  have hcz13_3 : wr.cell? ⟨gb110, 3, none⟩ = some (.int .i64 a0_3) := (blk_cell BK110.out 3).trans rfl
                  have hcz13_4 : wr.cell? ⟨gb110, 4, none⟩ = some (.slice A0_4 l0_4.length c0_4) := (blk_cell BK110.out 4).trans rfl
                  have hfz13_0 := blk_frozen BK110.out 0
                  have hfz13_1 := blk_frozen BK110.out 1
                  have hfz13_2 := blk_frozen BK110.out 2
                  have hfz13_3 := blk_frozen BK110.out 3
                  have hfz13_4 := blk_frozen BK110.out 4
                  have p112 : 0 ≤ (x5_1 : Int) := of_decide_eq_true (by first | (with_reducible assumption) | assumption)
                  have q112 : x5_1 < (l0_4.length : Int) := of_decide_eq_true (by first | (with_reducible assumption) | assumption)
                  obtain ⟨ad112, e112, hx112_0, hx112_1⟩ := at_T24 HR0_4.out x5_1 p112 q112
                  cases e112
                  replace hx112_0 := (HB.out.cell (World.block_lt_of_cell? w _ hx112_0)).trans hx112_0
                  replace hx112_1 := (HB.out.cell (World.block_lt_of_cell? w _ hx112_1)).trans hx112_1
                  replace p112 := eq_true p112
                  replace q112 := eq_true q112
                  have p113 : 0 ≤ (x5_1 : Int) := of_decide_eq_true (by first | (with_reducible assumption) | assumption)
                  have q113 : x5_1 < (l1.length : Int) := of_decide_eq_true (by first | (with_reducible assumption) | assumption)
                  obtain ⟨ad113, e113, hx113_0⟩ := Kd.at_int HR1.out x5_1 p113 q113
                  obtain rfl : ad111 = ad113 := (by injection e113)
                  replace hx113_0 := (HB.out.cell (World.block_lt_of_cell? w _ hx113_0)).trans hx113_0
                  replace p113 := eq_true p113
                  replace q113 := eq_true q113
                  have p114 : 0 ≤ (x5_1 : Int) := of_decide_eq_true (by first | (with_reducible assumption) | assumption)
                  have q114 : x5_1 < (l0_4.length : Int) := of_decide_eq_true (by first | (with_reducible assumption) | assumption)
                  obtain ⟨ad114, e114, hx114_0, hx114_1⟩ := at_T24 HR0_4.out x5_1 p114 q114
                  obtain rfl : ad112 = ad114 := (by injection e114)
                  replace hx114_0 := (HB.out.cell (World.block_lt_of_cell? w _ hx114_0)).trans hx114_0
                  replace hx114_1 := (HB.out.cell (World.block_lt_of_cell? w _ hx114_1)).trans hx114_1
                  replace p114 := eq_true p114
                  replace q114 := eq_true q114
                  go_wp2
                  repeat (go_quiet (fail); try go_wp2)
                  go_roundg k1
                  case measure => have := HK1.out; omega
                  case rel => exact ⟨(wrap64 (x5_1 + 1)), (by first | rfl | (simp; done) | (simp [*]; done)), H', ⟨by have := HK1.out; omega⟩, ⟨by (with_reducible repeat (first | refine blk_drewN ?_ _ | refine blk_drew ?_ | refine blk_alloc ?_ _)); exact BK110.out⟩, ⟨by repeat (first | (with_reducible first | exact HB.out | apply below_alloc | apply pw_below_drewN | apply below_drew1 | refine below_set ?_ GE110.out) | exact HB.out)⟩⟩
            · rw [if_neg c8] at H
              exact absurd H (by simp)
          · rw [if_neg c7] at H
            exact absurd H (by simp)
        · rw [if_neg c6] at H
          have c6b0 : decide (x5_1 < (l1.length : Int)) = false := decide_eq_false c6
          clear c6
          obtain rfl := Option.some.inj H
          go_wp2
          repeat (go_quiet (fail); try go_wp2)
          go_ret
          exact ⟨by first | rfl | (simp [errW_none, errW_some] <;> rfl) | (simp [*, errW_none, errW_some] <;> rfl), by repeat (first | (with_reducible first | exact HB.out | apply below_alloc | apply pw_below_drewN | apply below_drew1 | refine below_set ?_ GE110.out) | exact HB.out)⟩
  · rw [if_neg c3] at H
    have c3b0 : ((l1.length : Int) == (l0_4.length : Int)) = false := beq_eq_false_iff_ne.mpr c3
    have c3b1 : ((l1.length : Int) != (l0_4.length : Int)) = true := bne_iff_ne.mpr c3
    have c3b2 : (l1.length == l0_4.length) = false := by first | simpa using c3 | (simp at c3 ⊢; omega)
    obtain rfl := Option.some.inj H
    go_enter Tryd.func41, Tryd.ntmps41
    go_wp2_with (first | ((with_reducible refine gate_dst (N := 2) rfl ?_); refine box_event ?hg (N := 2) ?hd (cs := #[.slice A0_0 l0_0.length c0_0, .slice A0_1 l0_1.length c0_1, .int .i64 a0_2, .int .i64 a0_3, .slice A0_4 l0_4.length c0_4]) (t := 26) ?hr ?_; (case hd => rfl); (case hg => rfl); (case hr => first | (go_simp; done) | (go_simp; rfl)); intro gb110 hg w14 hbox hb; have n0_ := Aside0.mk (below_step (by repeat (first | (with_reducible first | exact HB.out | apply below_alloc | apply pw_below_drewN | apply below_drew1) | exact HB.out)) hb); have n1_ := Aside0.mk (hbox); have n2_ := Aside0.mk ((by rw [hg]; exact (below_size (by repeat (first | (with_reducible first | exact HB.out | apply below_alloc | apply pw_below_drewN | apply below_drew1) | exact HB.out))) : w.heap.size ≤ gb110)); have n3_ := Aside0.mk ((by rw [hg]; exact (below_size (by repeat (first | (with_reducible first | exact HB.out | apply below_alloc | apply pw_below_drewN | apply below_drew1) | exact HB.out))) : w.heap.size ≤ gb110)); clear HB; have HB := n0_; have BK110 := n1_; have GW110 := n2_; have GE110 := n3_; clear n0_ n1_ n2_ n3_; clear hb hbox hg; have hcz15_0 : w14.cell? ⟨gb110, 0, none⟩ = some (.slice A0_0 l0_0.length c0_0) := (blk_cell BK110.out 0).trans rfl; have hcz15_1 : w14.cell? ⟨gb110, 1, none⟩ = some (.slice A0_1 l0_1.length c0_1) := (blk_cell BK110.out 1).trans rfl; have hcz15_2 : w14.cell? ⟨gb110, 2, none⟩ = some (.int .i64 a0_2) := (blk_cell BK110.out 2).trans rfl; have hcz15_3 : w14.cell? ⟨gb110, 3, none⟩ = some (.int .i64 a0_3) := (blk_cell BK110.out 3).trans rfl; have hcz15_4 : w14.cell? ⟨gb110, 4, none⟩ = some (.slice A0_4 l0_4.length c0_4) := (blk_cell BK110.out 4).trans rfl; have hfz15_0 := blk_frozen BK110.out 0; have hfz15_1 := blk_frozen BK110.out 1; have hfz15_2 := blk_frozen BK110.out 2; have hfz15_3 := blk_frozen BK110.out 3; have hfz15_4 := blk_frozen BK110.out 4))
    repeat (go_quiet (first | ((with_reducible refine gate_dst (N := 2) rfl ?_); refine box_event ?hg (N := 2) ?hd (cs := #[.slice A0_0 l0_0.length c0_0, .slice A0_1 l0_1.length c0_1, .int .i64 a0_2, .int .i64 a0_3, .slice A0_4 l0_4.length c0_4]) (t := 26) ?hr ?_; (case hd => rfl); (case hg => rfl); (case hr => first | (go_simp; done) | (go_simp; rfl)); intro gb110 hg w14 hbox hb; have n0_ := Aside0.mk (below_step (by repeat (first | (with_reducible first | exact HB.out | apply below_alloc | apply pw_below_drewN | apply below_drew1) | exact HB.out)) hb); have n1_ := Aside0.mk (hbox); have n2_ := Aside0.mk ((by rw [hg]; exact (below_size (by repeat (first | (with_reducible first | exact HB.out | apply below_alloc | apply pw_below_drewN | apply below_drew1) | exact HB.out))) : w.heap.size ≤ gb110)); have n3_ := Aside0.mk ((by rw [hg]; exact (below_size (by repeat (first | (with_reducible first | exact HB.out | apply below_alloc | apply pw_below_drewN | apply below_drew1) | exact HB.out))) : w.heap.size ≤ gb110)); clear HB; have HB := n0_; have BK110 := n1_; have GW110 := n2_; have GE110 := n3_; clear n0_ n1_ n2_ n3_; clear hb hbox hg; have hcz15_0 : w14.cell? ⟨gb110, 0, none⟩ = some (.slice A0_0 l0_0.length c0_0) := (blk_cell BK110.out 0).trans rfl; have hcz15_1 : w14.cell? ⟨gb110, 1, none⟩ = some (.slice A0_1 l0_1.length c0_1) := (blk_cell BK110.out 1).trans rfl; have hcz15_2 : w14.cell? ⟨gb110, 2, none⟩ = some (.int .i64 a0_2) := (blk_cell BK110.out 2).trans rfl; have hcz15_3 : w14.cell? ⟨gb110, 3, none⟩ = some (.int .i64 a0_3) := (blk_cell BK110.out 3).trans rfl; have hcz15_4 : w14.cell? ⟨gb110, 4, none⟩ = some (.slice A0_4 l0_4.length c0_4) := (blk_cell BK110.out 4).trans rfl; have hfz15_0 := blk_frozen BK110.out 0; have hfz15_1 := blk_frozen BK110.out 1; have hfz15_2 := blk_frozen BK110.out 2; have hfz15_3 := blk_frozen BK110.out 3; have hfz15_4 := blk_frozen BK110.out 4)); try go_wp2_with (first | ((with_reducible refine gate_dst (N := 2) rfl ?_); refine box_event ?hg (N := 2) ?hd (cs := #[.slice A0_0 l0_0.length c0_0, .slice A0_1 l0_1.length c0_1, .int .i64 a0_2, .int .i64 a0_3, .slice A0_4 l0_4.length c0_4]) (t := 26) ?hr ?_; (case hd => rfl); (case hg => rfl); (case hr => first | (go_simp; done) | (go_simp; rfl)); intro gb110 hg w14 hbox hb; have n0_ := Aside0.mk (below_step (by repeat (first | (with_reducible first | exact HB.out | apply below_alloc | apply pw_below_drewN | apply below_drew1) | exact HB.out)) hb); have n1_ := Aside0.mk (hbox); have n2_ := Aside0.mk ((by rw [hg]; exact (below_size (by repeat (first | (with_reducible first | exact HB.out | apply below_alloc | apply pw_below_drewN | apply below_drew1) | exact HB.out))) : w.heap.size ≤ gb110)); have n3_ := Aside0.mk ((by rw [hg]; exact (below_size (by repeat (first | (with_reducible first | exact HB.out | apply below_alloc | apply pw_below_drewN | apply below_drew1) | exact HB.out))) : w.heap.size ≤ gb110)); clear HB; have HB := n0_; have BK110 := n1_; have GW110 := n2_; have GE110 := n3_; clear n0_ n1_ n2_ n3_; clear hb hbox hg; have hcz15_0 : w14.cell? ⟨gb110, 0, none⟩ = some (.slice A0_0 l0_0.length c0_0) := (blk_cell BK110.out 0).trans rfl; have hcz15_1 : w14.cell? ⟨gb110, 1, none⟩ = some (.slice A0_1 l0_1.length c0_1) := (blk_cell BK110.out 1).trans rfl; have hcz15_2 : w14.cell? ⟨gb110, 2, none⟩ = some (.int .i64 a0_2) := (blk_cell BK110.out 2).trans rfl; have hcz15_3 : w14.cell? ⟨gb110, 3, none⟩ = some (.int .i64 a0_3) := (blk_cell BK110.out 3).trans rfl; have hcz15_4 : w14.cell? ⟨gb110, 4, none⟩ = some (.slice A0_4 l0_4.length c0_4) := (blk_cell BK110.out 4).trans rfl; have hfz15_0 := blk_frozen BK110.out 0; have hfz15_1 := blk_frozen BK110.out 1; have hfz15_2 := blk_frozen BK110.out 2; have hfz15_3 := blk_frozen BK110.out 3; have hfz15_4 := blk_frozen BK110.out 4)))
    go_ret
    exact ⟨by first | rfl | (simp [errW_none, errW_some] <;> rfl) | (simp [*, errW_none, errW_some] <;> rfl), by repeat (first | (with_reducible first | exact HB.out | apply below_alloc | apply pw_below_drewN | apply below_drew1 | refine below_set ?_ GE110.out) | exact HB.out)⟩
end Go.Proofs.YtcbhnhoicecnnaaDoor.PrK
namespace Go.Proofs.YtcbhnhoicecnnaaDoor.Hand
set_option linter.unusedVariables false
set_option linter.unusedSimpArgs false
open Go.RowKit Go.Maps Go.Proofs.YtcbhnhoicecnnaaDoorW.PrintWords Go.Proofs.YtcbhnhoicecnnaaDoorW.PrintLast Go.Proofs.YtcbhnhoicecnnaaDoorW.PrintMore Go.Proofs.YtcbhnhoicecnnaaDoor.PrK
structure TOk (s : ShM) (t : List Int) : Prop where
  ok : s.Ok
  len : t.length = s.l0.length * s.l1.length
  bd : ∀ i, i < t.length → 0 ≤ tat t i ∧ tat t i ≤ 1000
section
variable {s : ShM} {t : List Int}
theorem TOk.n1 (h : TOk s t) : 1 ≤ s.l0.length := by have := h.ok.n1; simp [ShM.sh, shL] at this; omega
theorem TOk.n5 (h : TOk s t) : s.l0.length ≤ 5 := by have := h.ok.n5; simp [ShM.sh, shL] at this; omega
theorem TOk.m1 (h : TOk s t) : 1 ≤ s.l1.length := by have := h.ok.m1; simp [ShM.sh, shL] at this; omega
theorem TOk.m5 (h : TOk s t) : s.l1.length ≤ 5 := by have := h.ok.m5; simp [ShM.sh, shL] at this; omega
theorem TOk.l25 (h : TOk s t) : t.length ≤ 25 := by
  rw [h.len]
  calc s.l0.length * s.l1.length ≤ 5 * 5 := Nat.mul_le_mul h.n5 h.m5
    _ = 25 := rfl
theorem TOk.quo (h : TOk s t) : ∀ i, i < t.length → i / s.l1.length < 5 := fun i hi => by
  have h1 : i / s.l1.length < s.l0.length := Nat.div_lt_of_lt_mul (by rw [Nat.mul_comm, ← h.len]; exact hi)
  have := h.n5
  omega
theorem TOk.l4 (h : TOk s t) : s.l4.length = t.length := by
  have := h.ok.len
  rw [h.len]
  simpa [ShM.sh, shL] using this
theorem TOk.cell (h : TOk s t) {o p : Nat} (ho : o < s.l0.length) (hp : p < s.l1.length) : o * s.l1.length + p < t.length := by
  rw [h.len]
  have : (o + 1) * s.l1.length ≤ s.l0.length * s.l1.length := Nat.mul_le_mul_right _ ho
  rw [Nat.succ_mul] at this
  omega
theorem TOk.owns (h : TOk s t) (o : Nat) : ownK s.l1.length (tat t) t.length o = if o < s.l0.length then ownS s.l1.length (tat t) o else 0 := by
  rw [h.len]; exact ownK_end h.m1 _ _
theorem TOk.own_bd (h : TOk s t) (o : Nat) : 0 ≤ ownK s.l1.length (tat t) t.length o ∧ ownK s.l1.length (tat t) t.length o ≤ 25000 := by
  have := ownK_bound (m := s.l1.length) h.bd t.length (Nat.le_refl _) o
  have := h.l25
  omega
theorem TOk.all_is (h : TOk s t) : sumR 5 (ownK s.l1.length (tat t) t.length) = allS s.l0.length s.l1.length (tat t) := by
  obtain ⟨d, hd⟩ : ∃ d, 5 = s.l0.length + d := ⟨5 - s.l0.length, by have := h.n5; omega⟩
  rw [hd, sumR_split, sumR_congr (n := s.l0.length) (g := fun o => ownS s.l1.length (tat t) o) fun o ho => by rw [h.owns, if_pos ho], sumR_zero' (n := d) fun i _ => by rw [h.owns, if_neg (by omega)], Int.add_zero]
  rfl
end
theorem same_sums (w : World) (f g : Nat → Int) : (binOp .eql 100 (.agg (cellsN 5 f)) (.agg (cellsN 5 g))).run Tryd.prog w = .ok (.bool ((List.range 5).all fun i => f i == g i)) w :=
  run_eql_array w sums_under Tryd.underlying2 sums_cells _ _ f g (fun i hi => cellsN_get _ _ hi) (fun i hi => cellsN_get _ _ hi)
set_option maxHeartbeats 2000000 in
set_option maxRecDepth 100000 in
theorem all_any (B Tb : Nat) (s : ShM) (fv : Value) (t : List Int) (w : World) (h : BookAt w B Tb s fv t) (ht : TOk s t) :
    Calls Tryd.prog 66 #[.pointer (some ⟨B, 0, none⟩)] w fun e w' => e = .returned (.int .i64 (allS s.l0.length s.l1.length (tat t))) ∧ Below w.heap.size w w' := by
  obtain ⟨hz, hs⟩ := zero_of_info zero_sums
  have HS := Lib.hid hs
  have HT := Lib.hid ht
  have HO := Lib.hid (owners_any B Tb s fv t w h ht.m1 ht.quo ht.l25 ht.bd)
  obtain ⟨f, hf⟩ : ∃ f, f = ownK s.l1.length (tat t) t.length := ⟨_, rfl⟩
  have HF := Lib.hid hf
  rw [← hf] at HO
  have hbd := ht.own_bd
  rw [← hf] at hbd
  have HBD := Lib.hid hbd
  have hsz : (cellsN 5 f).size = 5 := cellsN_size _ _
  have hsz0 : (cellsN 5 fun _ => (0 : Int)).size = 5 := cellsN_size _ _
  have hbl : ∀ W : World, (Instr.build 100 #[]).run Tryd.prog W = .ok (.agg (cellsN 5 fun _ => 0)) W := fun W => run_build W _ _ _ sums_built
  have HSM : Hid (sumR 5 f = allS s.l0.length s.l1.length (tat t)) := Lib.hid (by rw [hf]; exact ht.all_is)
  clear hs h ht hf hbd
  by_cases hz0 : ∀ i, i < 5 → f i = 0
  · have HZ := Lib.hid hz0
    have hsame : ∀ W : World, (binOp .eql 100 (.agg (cellsN 5 f)) (.agg (cellsN 5 fun _ => 0))).run Tryd.prog W = .ok (.bool true) W := fun W => by
      rw [same_sums]
      rw [show ((List.range 5).all fun i => f i == 0) = true from List.all_eq_true.2 fun i hi => by simpa using HZ.out i (List.mem_range.1 hi)]
    clear hz0
    go_enter Tryd.func66, Tryd.ntmps66
    go_wp2_with fail
    refine HO.out.mono ?_
    rintro e w1 ⟨rfl, hw⟩
    have HB1 := Lib.hid hw
    have hst := run_storeCells_new (P := Tryd.prog) w1 100 (cellsN 5 fun _ => 0) (cellsN 5 f) (by rw [cellsN_size]; exact HS.out) (by rw [cellsN_size, cellsN_size]) (cellsN_one _ _)
    have hh := heap_alloc_last w1 (.cells (cellsN 5 f) 100)
    clear hw
    go_wp2_with (first | (refine wpList_load_row rfl 100 (.tmp 4) rfl w1.heap.size rfl 100 (cellsN 5 f) (0, 0) _ hh sums_under rfl HS.out ?_))
    go_ret
    refine ⟨?_, HB1.out.alloc HB1.out.size _⟩
    rw [← HSM.out, sumR_zero' HZ.out]; rfl
  · obtain ⟨i0, hi0, hne⟩ : ∃ i, i < 5 ∧ f i ≠ 0 := by
      apply Classical.byContradiction
      intro hx
      exact hz0 fun i hi => Classical.byContradiction fun h => hx ⟨i, hi, h⟩
    have hsame : ∀ W : World, (binOp .eql 100 (.agg (cellsN 5 f)) (.agg (cellsN 5 fun _ => 0))).run Tryd.prog W = .ok (.bool false) W := fun W => by
      rw [same_sums]
      rw [show ((List.range 5).all fun i => f i == 0) = false from List.all_eq_false.2 ⟨i0, List.mem_range.2 hi0, by simpa using hne⟩]
    clear hz0 hne hi0
    go_enter Tryd.func66, Tryd.ntmps66
    go_wp2_with fail
    refine HO.out.mono ?_
    rintro e w1 ⟨rfl, hw⟩
    have HB1 := Lib.hid hw
    have hst := run_storeCells_new (P := Tryd.prog) w1 100 (cellsN 5 fun _ => 0) (cellsN 5 f) (by rw [cellsN_size]; exact HS.out) (by rw [cellsN_size, cellsN_size]) (cellsN_one _ _)
    have hh := heap_alloc_last w1 (.cells (cellsN 5 f) 100)
    clear hw
    go_wp2_with (first | (refine wpList_load_row rfl 100 (.tmp 4) rfl w1.heap.size rfl 100 (cellsN 5 f) (0, 0) _ hh sums_under rfl HS.out ?_))
    clear hst hh hsame hbl hz
    have HBW := Lib.hid (HB1.out.alloc HB1.out.size (.cells (cellsN 5 f) 100))
    obtain ⟨w2, hw2⟩ : ∃ w2, w2 = w1.alloc (.cells (cellsN 5 f) 100) := ⟨_, rfl⟩
    rw [← hw2] at HBW ⊢
    clear hw2
    go_loopw [3, 6, 13] (fun v u i wr => ∃ k : Nat, k ≤ 5 ∧ i = .int .i64 k ∧ v = .int .i64 (sumR k f) ∧ Hid (Below w.heap.size w wr)) (fun _ _ i _ => 60 - (intOf i).toNat)
    case atStart => exact ⟨0, Nat.zero_le _, rfl, rfl, HBW⟩
    case round =>
      obtain ⟨k, hk, rfl, rfl, HR⟩ := hrel
      have hsb : 0 ≤ sumR k f ∧ sumR k f ≤ 125000 := by
        have h1 := sumR_nonneg (f := f) (n := k) fun i _ => (HBD.out i).1
        have h2 := sumR_le (f := f) (g := fun _ => 25000) (n := k) fun i _ => (HBD.out i).2
        rw [sumR_k] at h2
        omega
      obtain ⟨y, hy⟩ : ∃ y, y = sumR k f := ⟨_, rfl⟩
      have HY := Lib.hid hy
      rw [← hy] at hsb ⊢
      clear hy
      by_cases hlt : k < 5
      · have hlt' : (k : Int) < 5 := by omega
        obtain ⟨x, hx⟩ : ∃ x, x = f k := ⟨_, rfl⟩
        have hix : ∀ w', (Instr.index 100 (.agg (cellsN 5 f)) (.int .i64 (k : Int))).run Tryd.prog w' = .ok (.int .i64 x) w' := fun w' => by
          rw [hx]; exact run_index_agg w' sums_under sums_key sums_cells hlt (cellsN_get _ _ hlt)
        have hxb := HBD.out k
        rw [← hx] at hxb
        have HN : Hid (y + x = sumR (k + 1) f) := Lib.hid (by rw [sumR_succ, ← HY.out, hx])
        have b0 := hsb.1
        have b1 := hsb.2
        have b2 := hxb.1
        have b3 := hxb.2
        clear hx hsb hxb
        go_wp2
        go_roundw
        case rel => exact ⟨k + 1, by omega, by go_num, congrArg (Value.int .i64) HN.out, HR⟩
        case measure => simp [intOf]; omega
      · have hnl : ¬ ((k : Int) < 5) := by omega
        have hk5 : k = 5 := by omega
        have HK := Lib.hid hk5
        clear hk5 hsb
        go_wp2
        go_ret
        exact ⟨by rw [HY.out, HK.out, HSM.out]; rfl, HR.out⟩
theorem bes_val {n : Int} {r : Int × Int} (hr : RgOk r) (h0 : 0 ≤ n) (h1 : n ≤ 125000) : tally_beside.f n r.1 r.2 = some (bes n r) := by
  obtain ⟨a, b⟩ := r
  unfold RgOk at hr
  simp only at hr
  unfold tally_beside.f bes mx wrap64
  congr 1
  omega
theorem bes_bd {n : Int} {r : Int × Int} (hr : RgOk r) (h0 : 0 ≤ n) (h1 : n ≤ 125000) : 0 ≤ bes n r ∧ bes n r ≤ 125000 := by unfold RgOk at hr; unfold bes; omega
section
variable {s : ShM} {t : List Int}
theorem TOk.ro (h : TOk s t) {i : Nat} (hi : i < s.l0.length) : RgOk (rgAt s.sh.os i) := h.ok.ho i (by rw [← ShM.len0] at hi; exact hi)
theorem TOk.rp (h : TOk s t) {i : Nat} (hi : i < s.l1.length) : RgOk (rgAt s.sh.ps i) := h.ok.hp i (by rw [← ShM.len1] at hi; exact hi)
theorem TOk.rc (h : TOk s t) {i : Nat} (hi : i < t.length) : RgOk (rgAt s.sh.cs i) := h.ok.hc i (by rw [ShM.len4, h.l4]; exact hi)
theorem TOk.ra (h : TOk s t) : RgOk (s.a2, s.a3) := h.ok.ha
theorem TOk.all_bd (h : TOk s t) : 0 ≤ allS s.l0.length s.l1.length (tat t) ∧ allS s.l0.length s.l1.length (tat t) ≤ 125000 := by
  rw [← h.all_is]
  have h1 := sumR_nonneg (f := ownK s.l1.length (tat t) t.length) (n := 5) fun i _ => (h.own_bd i).1
  have h2 := sumR_le (f := ownK s.l1.length (tat t) t.length) (g := fun _ => 25000) (n := 5) fun i _ => (h.own_bd i).2
  rw [sumR_k] at h2
  omega
theorem TOk.pck_bd (h : TOk s t) {p : Nat} (hp : p < s.l1.length) : 0 ≤ pckS s.l0.length s.l1.length (tat t) p ∧ pckS s.l0.length s.l1.length (tat t) p ≤ 5000 := by
  have := sumR_bound (n := s.l0.length) (f := fun o => tat t (o * s.l1.length + p)) fun o ho => h.bd _ (h.cell ho hp)
  have := h.n5
  unfold pckS
  omega
theorem TOk.own_bd' (h : TOk s t) {o : Nat} (ho : o < s.l0.length) : 0 ≤ ownS s.l1.length (tat t) o ∧ ownS s.l1.length (tat t) o ≤ 5000 := by
  have := sumR_bound (n := s.l1.length) (f := fun p => tat t (o * s.l1.length + p)) fun p hp => h.bd _ (h.cell ho hp)
  have := h.m5
  unfold ownS
  omega
end
def wrgO (s : ShM) (t : List Int) (k : Nat) : Int := bes (allS s.l0.length s.l1.length (tat t)) (s.a2, s.a3) + sumR k fun o => bes (ownS s.l1.length (tat t) o) (rgAt s.sh.os o)
def wrgP (s : ShM) (t : List Int) (k : Nat) : Int := wrgO s t s.l0.length + sumR k fun p => bes (pckS s.l0.length s.l1.length (tat t) p) (rgAt s.sh.ps p)
theorem wrg_is (s : ShM) (t : List Int) : wrgP s t s.l1.length = wrongS s.sh (tat t) := by
  unfold wrgP wrgO wrongS
  rw [ShM.len0, ShM.len1]
  rfl
theorem sumR_k' {f : Nat → Int} {c : Int} : ∀ {n : Nat}, (∀ i, i < n → 0 ≤ f i ∧ f i ≤ c) → 0 ≤ sumR n f ∧ sumR n f ≤ (n : Int) * c := fun {n} h => by
  have h1 := sumR_nonneg (f := f) (n := n) fun i hi => (h i hi).1
  have h2 := sumR_le (f := f) (g := fun _ => c) (n := n) fun i hi => (h i hi).2
  rw [sumR_k] at h2
  exact ⟨h1, h2⟩
theorem wrgO_bd {s : ShM} {t : List Int} (h : TOk s t) {k : Nat} (hk : k ≤ s.l0.length) : 0 ≤ wrgO s t k ∧ wrgO s t k ≤ 750000 := by
  have h1 := bes_bd h.ra h.all_bd.1 h.all_bd.2
  have h2 := sumR_k' (n := k) (f := fun o => bes (ownS s.l1.length (tat t) o) (rgAt s.sh.os o)) (c := 125000) fun o ho => bes_bd (h.ro (by omega)) (h.own_bd' (by omega)).1 (by have := (h.own_bd' (o := o) (by omega)).2; omega)
  have := h.n5
  unfold wrgO
  omega
theorem wrgP_bd {s : ShM} {t : List Int} (h : TOk s t) {k : Nat} (hk : k ≤ s.l1.length) : 0 ≤ wrgP s t k ∧ wrgP s t k ≤ 1375000 := by
  have h1 := wrgO_bd h (Nat.le_refl _)
  have h2 := sumR_k' (n := k) (f := fun p => bes (pckS s.l0.length s.l1.length (tat t) p) (rgAt s.sh.ps p)) (c := 125000) fun o ho => bes_bd (h.rp (by omega)) (h.pck_bd (by omega)).1 (by have := (h.pck_bd (p := o) (by omega)).2; omega)
  have := h.m5
  unfold wrgP
  omega
set_option maxHeartbeats 4000000 in
set_option maxRecDepth 100000 in
theorem wrong_any (B Tb : Nat) (s : ShM) (fv : Value) (t : List Int) (w : World) (h : BookAt w B Tb s fv t) (ht : TOk s t) :
    Calls Tryd.prog 52 #[.pointer (some ⟨B, 0, none⟩)] w fun e w' => e = .returned (.int .i64 (wrongS s.sh (tat t))) ∧ Below w.heap.size w w' := by
  obtain ⟨hz, hs⟩ := zero_of_info zero_sums
  have hu := Tryd.underlying24
  have HS := Lib.hid hs
  have HT := Lib.hid ht
  have HB := Lib.hid h
  have HB0 : Hid (Below w.heap.size w w) := Lib.hid (Below.refl _ _)
  have c2 := h.b2
  have c3 := h.b3
  have KA : Hid (∀ x : Kw w.heap.size w, Calls Tryd.prog 66 #[.pointer (some ⟨B, 0, none⟩)] x.1 fun e w' => e = .returned (.int .i64 (allS s.l0.length s.l1.length (tat t))) ∧ Below x.1.heap.size x.1 w') :=
    Lib.hid fun x => all_any B Tb s fv t x.1 (h.below x.2) ht
  obtain ⟨z, hz1⟩ : ∃ z, z = allS s.l0.length s.l1.length (tat t) := ⟨_, rfl⟩
  obtain ⟨b0, hb0⟩ : ∃ b, b = bes z (s.a2, s.a3) := ⟨_, rfl⟩
  rw [← hz1] at KA
  have KB : Hid (∀ x : Kw w.heap.size w, Calls Tryd.prog 73 #[.int .i64 z, .agg #[.int .i64 s.a2, .int .i64 s.a3]] x.1 fun e w' => e = .returned (.int .i64 b0) ∧ Below x.1.heap.size x.1 w') :=
    Lib.hid fun x => tally_beside.calls z s.a2 s.a3 b0 x.1 (by rw [hb0, hz1]; exact bes_val ht.ra ht.all_bd.1 ht.all_bd.2)
  have HB00 : Hid (b0 = wrgO s t 0) := Lib.hid (by rw [hb0, hz1]; unfold wrgO; rw [sumR_zero, Int.add_zero])
  have k2 := kept_cell' c2
  have k3 := kept_cell' c3
  clear hs h ht c2 c3 hz1 hb0
  go_enter Tryd.func52, Tryd.ntmps52
  go_wp2_with fail
  refine wp_region_kept w.heap.size w (by kernel_rfl) (by kernel_rfl) (Below.refl _ _) ?_
  repeat (go_big_quiet_step (first | with_reducible exact kept_calls _ (Nat.le_refl _) (KA.out _) | with_reducible exact kept_calls _ (Nat.le_refl _) (KB.out _)))
  refine wpQuiet_nil ?_
  rintro _ ⟨X, rfl⟩
  obtain ⟨w1, hw1⟩ : ∃ w1, w1 = X.1 := ⟨_, rfl⟩
  have hX := X.2
  rw [← hw1] at hX ⊢
  have HB1 := Lib.hid hX
  have HK1 := Lib.hid (HB.out.below hX)
  clear hw1 hX k2 k3 X KA KB
  go_wp2_with fail
  have ht := HT.out
  refine (owners_any B Tb s fv t w1 HK1.out ht.m1 ht.quo ht.l25 ht.bd).mono ?_
  rintro e w2 ⟨rfl, hw⟩
  obtain ⟨f, hf⟩ : ∃ f, f = ownK s.l1.length (tat t) t.length := ⟨_, rfl⟩
  have HF := Lib.hid hf
  rw [← hf]
  have hsz : (cellsN 5 f).size = 5 := cellsN_size _ _
  have hsz0 : (cellsN 5 fun _ => (0 : Int)).size = 5 := cellsN_size _ _
  have HB2 := Lib.hid (HB1.out.trans (hw.mono HB1.out.size))
  have HK2 := Lib.hid (HK1.out.below hw)
  have hst := run_storeCells_new (P := Tryd.prog) w2 100 (cellsN 5 fun _ => 0) (cellsN 5 f) (by rw [cellsN_size]; exact HS.out) (by rw [cellsN_size, cellsN_size]) (cellsN_one _ _)
  obtain ⟨S, hS⟩ : ∃ S, S = w2.heap.size := ⟨_, rfl⟩
  obtain ⟨w3, hw3⟩ : ∃ w3, w3 = w2.alloc (.cells (cellsN 5 f) 100) := ⟨_, rfl⟩
  have hb3 : Below w2.heap.size w2 w3 := by rw [hw3]; exact (Below.refl _ _).alloc (Nat.le_refl _) _
  have HK3 := Lib.hid (HK2.out.below hb3)
  have HB3 := Lib.hid (HB2.out.trans (hb3.mono HB2.out.size))
  have HS3 : Hid (w3.heap[S]? = some (.cells (cellsN 5 f) 100 (0, 0))) := Lib.hid (by rw [hw3, hS]; exact heap_alloc_last w2 _)
  have q0 := HK3.out.b0
  rw [hw3] at q0
  clear hw hf ht hb3
  go_wp2_with fail
  rw [← hw3, ← hS]
  clear hst hw3 hS q0 hsz0 hz
  go_loopw [3, 5, 6, 25] (fun v _ _ i wr => ∃ k : Nat, k ≤ s.l0.length ∧ i = .int .i64 k ∧ v = .int .i64 (wrgO s t k) ∧ Hid (Below w3.heap.size w3 wr)) (fun _ _ _ i _ => 60 - (intOf i).toNat)
  case atStart => exact ⟨0, Nat.zero_le _, rfl, congrArg (Value.int .i64) HB00.out, Lib.hid (Below.refl _ _)⟩
  case round =>
    obtain ⟨k, hk, rfl, rfl, HR⟩ := hrel
    have ht := HT.out
    have hk5 := ht.n5
    have hbd := wrgO_bd ht hk
    obtain ⟨y, hy⟩ : ∃ y, y = wrgO s t k := ⟨_, rfl⟩
    have HY := Lib.hid hy
    rw [← hy] at hbd ⊢
    clear hy
    by_cases hlt : k < s.l0.length
    · have hlt' : (k : Int) < (s.l0.length : Int) := by omega
      have p0 : (0 : Int) ≤ (k : Int) := by omega
      have HKr := Lib.hid (HK3.out.below HR.out)
      obtain ⟨ad, hae, h1, h2⟩ := at_rg HKr.out.rd.r0 hlt
      obtain ⟨g1, hg1⟩ : ∃ g, g = (rgAt (s.l0.map pr) k).1 := ⟨_, rfl⟩
      obtain ⟨g2, hg2⟩ : ∃ g, g = (rgAt (s.l0.map pr) k).2 := ⟨_, rfl⟩
      rw [← hg1] at h1
      rw [← hg2] at h2
      have cS : wr.cell? ⟨S, k, none⟩ = some (.int .i64 (f k)) := by
        rw [cell_of_row wr _ k _ _ _ ((HR.out.block S (heap_lt HS3.out)).trans HS3.out)]; exact cellsN_get _ _ (by omega)
      obtain ⟨x, hx⟩ : ∃ x, x = f k := ⟨_, rfl⟩
      rw [← hx] at cS
      have hxo : x = ownS s.l1.length (tat t) k := by rw [hx, HF.out, ht.owns, if_pos hlt]
      obtain ⟨b, hb⟩ : ∃ b, b = bes x (rgAt s.sh.os k) := ⟨_, rfl⟩
      have hbv : tally_beside.f x g1 g2 = some b := by
        rw [hb, hg1, hg2, hxo]
        exact bes_val (ht.ro hlt) (ht.own_bd' hlt).1 (by have := (ht.own_bd' hlt).2; omega)
      have hbb : 0 ≤ b ∧ b ≤ 125000 := by rw [hb, hxo]; exact bes_bd (ht.ro hlt) (ht.own_bd' hlt).1 (by have := (ht.own_bd' hlt).2; omega)
      have HN : Hid (y + b = wrgO s t (k + 1)) := Lib.hid (by unfold wrgO; rw [sumR_succ, ← Int.add_assoc]; rw [HY.out, hb, hxo]; rfl)
      have HBV := Lib.hid hbv
      obtain ⟨y0, y1⟩ := hbd
      obtain ⟨b0', b1'⟩ := hbb
      have hk5' : (k : Int) < 5 := by omega
      clear hx hb hbv hxo hg1 hg2 ht
      obtain ⟨w4, hw4⟩ : ∃ w4, w4 = wr.alloc (.cells #[.int .i64 g1, .int .i64 g2] 24) := ⟨_, rfl⟩
      have hb4 : Below wr.heap.size wr w4 := by rw [hw4]; exact (Below.refl _ _).alloc (Nat.le_refl _) _
      have e1 : w4.cell? ⟨wr.heap.size, 0, none⟩ = some (.int .i64 g1) := by rw [hw4]; simp [go_sem]
      have e2 : w4.cell? ⟨wr.heap.size, 1, none⟩ = some (.int .i64 g2) := by rw [hw4]; simp [go_sem]
      have HB4 := Lib.hid (HR.out.trans (hb4.mono HR.out.size))
      have eS := (hb4.cell (cell_size cS)).trans cS
      go_wp2_with fail
      rw [← hw4]
      clear hw4 hb4 h1 h2 cS
      have k1 := kept_cell' e1
      have k2 := kept_cell' e2
      have kS := kept_cell' eS
      clear e1 e2 eS
      have KB : Hid (∀ x' : Kw w4.heap.size w4, Calls Tryd.prog 73 #[.int .i64 x, .agg #[.int .i64 g1, .int .i64 g2]] x'.1 fun e w' => e = .returned (.int .i64 b) ∧ Below x'.1.heap.size x'.1 w') :=
        Lib.hid fun x' => tally_beside.calls x g1 g2 b x'.1 HBV.out
      refine wp_region_kept w4.heap.size w4 (by kernel_rfl) (by kernel_rfl) (Below.refl _ _) ?_
      repeat (go_big_quiet_step (with_reducible exact kept_calls _ (Nat.le_refl _) (KB.out _)))
      refine wpQuiet_nil ?_
      rintro _ ⟨X, rfl⟩
      obtain ⟨w5, hw5⟩ : ∃ w5, w5 = X.1 := ⟨_, rfl⟩
      have hX := X.2
      rw [← hw5] at hX ⊢
      have HB5 := Lib.hid (HB4.out.trans (hX.mono HB4.out.size))
      clear hw5 hX X k1 k2 kS KB
      go_wp2
      go_roundw
      case rel => exact ⟨k + 1, by omega, by go_num, congrArg (Value.int .i64) HN.out, HB5⟩
      case measure => simp [intOf]; omega
    · have hnl : ¬ ((k : Int) < (s.l0.length : Int)) := by omega
      have hke : k = s.l0.length := by omega
      have HKr := Lib.hid (HK3.out.below HR.out)
      have HBr := Lib.hid (HB3.out.trans (HR.out.mono HB3.out.size))
      have HP0 : Hid (y = wrgP s t 0) := Lib.hid (by unfold wrgP; rw [sumR_zero, Int.add_zero, HY.out, hke])
      obtain ⟨wq, rfl⟩ : ∃ wq, wq = wr := ⟨_, rfl⟩
      have q1 := HKr.out.b1
      clear hke ht hbd hk5
      go_wp2_with fail
      clear q1
      go_loopw [3, 7, 8, 44] (fun v _ _ i wr => ∃ k : Nat, k ≤ s.l1.length ∧ i = .int .i64 k ∧ v = .int .i64 (wrgP s t k) ∧ Hid (Below wq.heap.size wq wr)) (fun _ _ _ i _ => 60 - (intOf i).toNat)
      case atStart => exact ⟨0, Nat.zero_le _, rfl, congrArg (Value.int .i64) HP0.out, Lib.hid (Below.refl _ _)⟩
      case round =>
        obtain ⟨k, hk, rfl, rfl, HR⟩ := hrel
        have ht := HT.out
        have hk5 := ht.m5
        have hbd := wrgP_bd ht hk
        obtain ⟨y, hy⟩ : ∃ y, y = wrgP s t k := ⟨_, rfl⟩
        have HY := Lib.hid hy
        rw [← hy] at hbd ⊢
        clear hy
        by_cases hlt : k < s.l1.length
        · have hlt' : (k : Int) < (s.l1.length : Int) := by omega
          have p0 : (0 : Int) ≤ (k : Int) := by omega
          have HKs := Lib.hid (HKr.out.below HR.out)
          obtain ⟨ad, hae, h1, h2⟩ := at_rg HKs.out.rd.r1 hlt
          obtain ⟨g1, hg1⟩ : ∃ g, g = (rgAt (s.l1.map pr) k).1 := ⟨_, rfl⟩
          obtain ⟨g2, hg2⟩ : ∃ g, g = (rgAt (s.l1.map pr) k).2 := ⟨_, rfl⟩
          rw [← hg1] at h1
          rw [← hg2] at h2
          obtain ⟨x, hx⟩ : ∃ x, x = pckS s.l0.length s.l1.length (tat t) k := ⟨_, rfl⟩
          obtain ⟨b, hb⟩ : ∃ b, b = bes x (rgAt s.sh.ps k) := ⟨_, rfl⟩
          have hbv : tally_beside.f x g1 g2 = some b := by
            rw [hb, hg1, hg2, hx]
            exact bes_val (ht.rp hlt) (ht.pck_bd hlt).1 (by have := (ht.pck_bd hlt).2; omega)
          have hbb : 0 ≤ b ∧ b ≤ 125000 := by rw [hb, hx]; exact bes_bd (ht.rp hlt) (ht.pck_bd hlt).1 (by have := (ht.pck_bd hlt).2; omega)
          have HN : Hid (y + b = wrgP s t (k + 1)) := Lib.hid (by unfold wrgP; rw [sumR_succ, ← Int.add_assoc]; rw [HY.out, hb, hx]; rfl)
          have HBV := Lib.hid hbv
          have HX := Lib.hid hx
          obtain ⟨y0, y1⟩ := hbd
          obtain ⟨b0', b1'⟩ := hbb
          clear hx hb hbv hg1 hg2 ht
          obtain ⟨w4, hw4⟩ : ∃ w4, w4 = wr.alloc (.cells #[.int .i64 g1, .int .i64 g2] 24) := ⟨_, rfl⟩
          have hb4 : Below wr.heap.size wr w4 := by rw [hw4]; exact (Below.refl _ _).alloc (Nat.le_refl _) _
          have e1 : w4.cell? ⟨wr.heap.size, 0, none⟩ = some (.int .i64 g1) := by rw [hw4]; simp [go_sem]
          have e2 : w4.cell? ⟨wr.heap.size, 1, none⟩ = some (.int .i64 g2) := by rw [hw4]; simp [go_sem]
          have HB4 := Lib.hid (HR.out.trans (hb4.mono HR.out.size))
          have HK4 := Lib.hid (HKs.out.below hb4)
          go_wp2_with fail
          rw [← hw4]
          clear hw4 hb4 h1 h2
          have k1 := kept_cell' e1
          have k2 := kept_cell' e2
          clear e1 e2
          have KB : Hid (∀ x' : Kw w4.heap.size w4, Calls Tryd.prog 73 #[.int .i64 x, .agg #[.int .i64 g1, .int .i64 g2]] x'.1 fun e w' => e = .returned (.int .i64 b) ∧ Below x'.1.heap.size x'.1 w') :=
            Lib.hid fun x' => tally_beside.calls x g1 g2 b x'.1 HBV.out
          have KP : Hid (∀ x' : Kw w4.heap.size w4, Calls Tryd.prog 75 #[.pointer (some ⟨B, 0, none⟩), .int .i64 (k : Int)] x'.1 fun e w' => e = .returned (.int .i64 x) ∧ Below x'.1.heap.size x'.1 w') :=
            Lib.hid fun x' => (pocket_any B Tb s fv t s.l0.length k x'.1 (HK4.out.below x'.2) hlt HT.out.m5 HT.out.n5 HT.out.len HT.out.bd).mono fun e w' ⟨h1, h2⟩ => ⟨by rw [HX.out]; exact h1, by rw [h2]; exact Below.refl _ _⟩
          refine wp_region_kept w4.heap.size w4 (by kernel_rfl) (by kernel_rfl) (Below.refl _ _) ?_
          repeat (go_big_quiet_step (first | with_reducible exact kept_calls _ (Nat.le_refl _) (KB.out _) | with_reducible exact kept_calls _ (Nat.le_refl _) (KP.out _)))
          refine wpQuiet_nil ?_
          rintro _ ⟨X, rfl⟩
          obtain ⟨w5, hw5⟩ : ∃ w5, w5 = X.1 := ⟨_, rfl⟩
          have hX := X.2
          rw [← hw5] at hX ⊢
          have HB5 := Lib.hid (HB4.out.trans (hX.mono HB4.out.size))
          clear hw5 hX X k1 k2 KB KP
          go_wp2
          go_roundw
          case rel => exact ⟨k + 1, by omega, by go_num, congrArg (Value.int .i64) HN.out, HB5⟩
          case measure => simp [intOf]; omega
        · have hnl2 : ¬ ((k : Int) < (s.l1.length : Int)) := by omega
          have hke : k = s.l1.length := by omega
          have HE : Hid (y = wrongS s.sh (tat t)) := Lib.hid (by rw [HY.out, hke, wrg_is])
          clear hke ht hbd hk5
          go_wp2
          go_ret
          exact ⟨congrArg (fun v => Ending.returned (Value.int .i64 v)) HE.out, HBr.out.trans (HR.out.mono HBr.out.size)⟩
def lkC (x : Lk) : List Value := [.int .i64 x.fr.1, .int .i64 x.fr.2, .int .i64 x.to_.1, .int .i64 x.to_.2, .int .i64 x.wr, .int .i64 x.room, .int .i64 x.cell, .int .i64 x.sgn]
def lkV (x : Lk) : Value := .agg (lkC x).toArray
def lksC (L : List Lk) : List Value := L.flatMap lkC
theorem lksC_length (L : List Lk) : (lksC L).length = L.length * 8 := by
  induction L with
  | nil => rfl
  | cons x L ih => rw [lksC, List.flatMap_cons, List.length_append]; rw [lksC] at ih; rw [ih]; simp [lkC]; omega
theorem lksC_append (L L' : List Lk) : lksC (L ++ L') = lksC L ++ lksC L' := by simp [lksC]
theorem infoLk : (Tryd.prog.info? 114).map (fun i => (i.zero, i.size, i.bytes)) = some (some (lkV lk0), 8, 64) := by kernel_rfl
structure Pair2 (W : World) (n0 g9 g10 : Nat) (x y : Lk) (r : Int × Int) : Prop where
  a : W.heap[g9]? = some (.cells (lkC x).toArray 114 (0, 0))
  b : W.heap[g10]? = some (.cells (lkC y).toArray 114 (0, 0))
  c : W.cell? ⟨n0, 0, none⟩ = some (.int .i64 r.1)
  d : W.cell? ⟨n0, 1, none⟩ = some (.int .i64 r.2)
  n1 : n0 < g9
  n2 : n0 < g10
  ne : g9 ≠ g10
theorem Pair2.up {W : World} {n0 g9 g10 : Nat} {x y : Lk} {r : Int × Int} (h : Pair2 W n0 g9 g10 x y r) (v u : Int) : Pair2 ((W.setCell ⟨g9, 4, none⟩ (.int .i64 v)).setCell ⟨g9, 5, none⟩ (.int .i64 u)) n0 g9 g10 { x with wr := v, room := u } y r := by
  refine ⟨heap_setCell_same _ g9 5 _ _ _ (heap_setCell_same _ g9 4 _ _ _ h.a), heap_far (heap_far h.b (Ne.symm h.ne) _) (Ne.symm h.ne) _, ?_, ?_, h.n1, h.n2, h.ne⟩
  · rw [World.cell?_setCell_other _ _ _ _ (by simp), World.cell?_setCell_other _ _ _ _ (by simp)]; exact h.c
  · rw [World.cell?_setCell_other _ _ _ _ (by simp), World.cell?_setCell_other _ _ _ _ (by simp)]; exact h.d
theorem Pair2.dn {W : World} {n0 g9 g10 : Nat} {x y : Lk} {r : Int × Int} (h : Pair2 W n0 g9 g10 x y r) (v u : Int) : Pair2 ((W.setCell ⟨g10, 4, none⟩ (.int .i64 v)).setCell ⟨g10, 5, none⟩ (.int .i64 u)) n0 g9 g10 x { y with wr := v, room := u } r := by
  refine ⟨heap_far (heap_far h.a h.ne _) h.ne _, heap_setCell_same _ g10 5 _ _ _ (heap_setCell_same _ g10 4 _ _ _ h.b), ?_, ?_, h.n1, h.n2, h.ne⟩
  · rw [World.cell?_setCell_other _ _ _ _ (by simp), World.cell?_setCell_other _ _ _ _ (by simp)]; exact h.c
  · rw [World.cell?_setCell_other _ _ _ _ (by simp), World.cell?_setCell_other _ _ _ _ (by simp)]; exact h.d
theorem Pair2.drew {W : World} {n0 g9 g10 : Nat} {x y : Lk} {r : Int × Int} (h : Pair2 W n0 g9 g10 x y r) : Pair2 W.drew n0 g9 g10 x y r := ⟨h.a, h.b, h.c, h.d, h.n1, h.n2, h.ne⟩
set_option maxHeartbeats 4000000 in
set_option maxRecDepth 100000 in
theorem both_any (f t : Int × Int) (n : Int) (r : Int × Int) (w : World) (hn : 0 ≤ n ∧ n ≤ 125000) (hr : RgOk r) :
    Calls Tryd.prog 84 #[nodeV f, nodeV t, .int .i64 n, .agg #[.int .i64 r.1, .int .i64 r.2]] w
      fun e w' => ∃ g, e = .returned (.slice (some ⟨g, 0, none⟩) 2 2) ∧ w.heap.size ≤ g ∧ w'.heap[g]? = some (.cells (lksC (bothL f t n r)).toArray 114 (0, 0)) ∧ Below w.heap.size w w' := by
  have hu1 := Tryd.underlying92
  have hu2 := Tryd.underlying114
  have hu3 := Tryd.underlying24
  obtain ⟨f1, f2⟩ := f
  obtain ⟨t1, t2⟩ := t
  obtain ⟨r1, r2⟩ := r
  obtain ⟨ra, rb, rc⟩ := hr
  simp only at ra rb rc
  obtain ⟨na, nb⟩ := hn
  unfold nodeV
  simp only
  go_enter Tryd.func84, Tryd.ntmps84
  go_upto_region 1 with fail
  obtain ⟨W, hW⟩ : ∃ W, W = ((w.alloc (.cells #[.int .i64 f1, .int .i64 f2] 92)).alloc (.cells #[.int .i64 t1, .int .i64 t2] 92)).alloc (.cells #[.int .i64 r1, .int .i64 r2] 24) := ⟨_, rfl⟩
  have hS : (fun w' : World => w'.cell? ⟨w.heap.size, 0, none⟩ = some (.int .i64 f1) ∧ w'.cell? ⟨w.heap.size, 1, none⟩ = some (.int .i64 f2) ∧ w'.cell? ⟨w.heap.size + 1, 0, none⟩ = some (.int .i64 t1) ∧ w'.cell? ⟨w.heap.size + 1, 1, none⟩ = some (.int .i64 t2)) W.drew := by
    rw [hW]; refine ⟨?_, ?_, ?_, ?_⟩ <;> simp [go_sem]
  have e1 : W.cell? ⟨w.heap.size + 1 + 1, 0, none⟩ = some (.int .i64 r1) := by rw [hW]; simp [go_sem]
  have e2 : W.cell? ⟨w.heap.size + 1 + 1, 1, none⟩ = some (.int .i64 r2) := by rw [hW]; simp [go_sem]
  have hsz : W.heap.size = w.heap.size + 3 := by rw [hW]; simp
  have hbW : Below w.heap.size w W := by rw [hW]; exact (((Below.refl _ _).alloc (Nat.le_refl _) _).alloc (by simp) _).alloc (by simp; omega) _
  have HBW := Lib.hid hbW
  have HE := Lib.hid (And.intro e1 (And.intro e2 hsz))
  rw [← hW]
  clear hW hbW e1 e2 hsz
  go_cut [9, 10] (fun v9 v10 wc => ∃ g9 g10 : Nat, v9 = .pointer (some ⟨g9, 0, none⟩) ∧ v10 = .pointer (some ⟨g10, 0, none⟩) ∧ Hid (Pair2 wc (w.heap.size + 1 + 1) g9 g10 ⟨(f1, f2), (t1, t2), 1, 1099511627776, -1, 0⟩ ⟨(t1, t2), (f1, f2), 1, 1099511627776, -1, 0⟩ (r1, r2)) ∧ Hid (Below w.heap.size w wc))
  case first =>
    refine wp_region_held_list (k := 10) rfl (fun w' => w'.cell? ⟨w.heap.size, 0, none⟩ = some (.int .i64 f1) ∧ w'.cell? ⟨w.heap.size, 1, none⟩ = some (.int .i64 f2) ∧ w'.cell? ⟨w.heap.size + 1, 0, none⟩ = some (.int .i64 t1) ∧ w'.cell? ⟨w.heap.size + 1, 1, none⟩ = some (.int .i64 t2)) (by kernel_rfl) ?_
    refine tk 0 (.agg #[.int .i64 f1, .int .i64 f2]) rfl (fun w' hw' => by obtain ⟨q0, q1, q2, q3⟩ := hw'; go_simp) hS ?_
    refine tk 1 (.agg #[.int .i64 t1, .int .i64 t2]) rfl (fun w' hw' => by obtain ⟨q0, q1, q2, q3⟩ := hw'; go_simp) hS ?_
    refine tk 2 (lkV ⟨(f1, f2), (t1, t2), 1, 1099511627776, -1, 0⟩) rfl (fun w' hw' => by go_simp; rfl) hS ?_
    refine tk 3 (.agg #[.int .i64 t1, .int .i64 t2]) rfl (fun w' hw' => by obtain ⟨q0, q1, q2, q3⟩ := hw'; go_simp) hS ?_
    refine tk 4 (.agg #[.int .i64 f1, .int .i64 f2]) rfl (fun w' hw' => by obtain ⟨q0, q1, q2, q3⟩ := hw'; go_simp) hS ?_
    refine tk 5 (lkV ⟨(t1, t2), (f1, f2), 1, 1099511627776, -1, 0⟩) rfl (fun w' hw' => by go_simp; rfl) hS ?_
    refine step2_list (i := 6) (j := 7) (by kernel_rfl) rfl rfl (by rfl) (by rfl) (fun K hK => ?_) (fun K hK => ?_)
    · go_simp
      have hS1 : (fun w' : World => w'.cell? ⟨w.heap.size, 0, none⟩ = some (.int .i64 f1) ∧ w'.cell? ⟨w.heap.size, 1, none⟩ = some (.int .i64 f2) ∧ w'.cell? ⟨w.heap.size + 1, 0, none⟩ = some (.int .i64 t1) ∧ w'.cell? ⟨w.heap.size + 1, 1, none⟩ = some (.int .i64 t2)) (W.alloc (.cells #[.int .i64 0, .int .i64 0, .int .i64 0, .int .i64 0, .int .i64 0, .int .i64 0, .int .i64 0, .int .i64 0] 114)).drew := by
        have hb := (Below.refl W.heap.size W).alloc (Nat.le_refl _) (.cells #[.int .i64 0, .int .i64 0, .int .i64 0, .int .i64 0, .int .i64 0, .int .i64 0, .int .i64 0, .int .i64 0] 114)
        exact ⟨(hb.cell (cell_size hS.1)).trans hS.1, (hb.cell (cell_size hS.2.1)).trans hS.2.1, (hb.cell (cell_size hS.2.2.1)).trans hS.2.2.1, (hb.cell (cell_size hS.2.2.2)).trans hS.2.2.2⟩
      refine hK _ _ hS1 ?_
      clear hK K
      (try simp only [Act.put, List.setIfInBounds_toArray, List.set_cons_zero, List.set_cons_succ])
      refine step_list (i := 7) (by kernel_rfl) rfl (by rfl) (fun K hK => ?_)
      go_simp
      have hS2 : (fun w' : World => w'.cell? ⟨w.heap.size, 0, none⟩ = some (.int .i64 f1) ∧ w'.cell? ⟨w.heap.size, 1, none⟩ = some (.int .i64 f2) ∧ w'.cell? ⟨w.heap.size + 1, 0, none⟩ = some (.int .i64 t1) ∧ w'.cell? ⟨w.heap.size + 1, 1, none⟩ = some (.int .i64 t2)) ((W.alloc (.cells #[.int .i64 0, .int .i64 0, .int .i64 0, .int .i64 0, .int .i64 0, .int .i64 0, .int .i64 0, .int .i64 0] 114)).alloc (.cells #[.int .i64 0, .int .i64 0, .int .i64 0, .int .i64 0, .int .i64 0, .int .i64 0, .int .i64 0, .int .i64 0] 114)).drew := by
        have hb := ((Below.refl W.heap.size W).alloc (Nat.le_refl _) (.cells #[.int .i64 0, .int .i64 0, .int .i64 0, .int .i64 0, .int .i64 0, .int .i64 0, .int .i64 0, .int .i64 0] 114)).alloc (by simp) (.cells #[.int .i64 0, .int .i64 0, .int .i64 0, .int .i64 0, .int .i64 0, .int .i64 0, .int .i64 0, .int .i64 0] 114)
        exact ⟨(hb.cell (cell_size hS.1)).trans hS.1, (hb.cell (cell_size hS.2.1)).trans hS.2.1, (hb.cell (cell_size hS.2.2.1)).trans hS.2.2.1, (hb.cell (cell_size hS.2.2.2)).trans hS.2.2.2⟩
      refine hK _ _ hS2 ?_
      clear hK K
      (try simp only [Act.put, List.setIfInBounds_toArray, List.set_cons_zero, List.set_cons_succ])
      refine step_list (i := 8) (by kernel_rfl) rfl (by rfl) (fun K hK => ?_)
      simp only [lkV, lkC]
      go_simp
      have hS3 : (fun w' : World => w'.cell? ⟨w.heap.size, 0, none⟩ = some (.int .i64 f1) ∧ w'.cell? ⟨w.heap.size, 1, none⟩ = some (.int .i64 f2) ∧ w'.cell? ⟨w.heap.size + 1, 0, none⟩ = some (.int .i64 t1) ∧ w'.cell? ⟨w.heap.size + 1, 1, none⟩ = some (.int .i64 t2)) ((W.alloc (.cells #[.int .i64 f1, .int .i64 f2, .int .i64 t1, .int .i64 t2, .int .i64 1, .int .i64 1099511627776, .int .i64 (-1), .int .i64 0] 114)).alloc (.cells #[.int .i64 0, .int .i64 0, .int .i64 0, .int .i64 0, .int .i64 0, .int .i64 0, .int .i64 0, .int .i64 0] 114)).drew := by
        have hb := ((Below.refl W.heap.size W).alloc (Nat.le_refl _) (.cells #[.int .i64 f1, .int .i64 f2, .int .i64 t1, .int .i64 t2, .int .i64 1, .int .i64 1099511627776, .int .i64 (-1), .int .i64 0] 114)).alloc (by simp) (.cells #[.int .i64 0, .int .i64 0, .int .i64 0, .int .i64 0, .int .i64 0, .int .i64 0, .int .i64 0, .int .i64 0] 114)
        exact ⟨(hb.cell (cell_size hS.1)).trans hS.1, (hb.cell (cell_size hS.2.1)).trans hS.2.1, (hb.cell (cell_size hS.2.2.1)).trans hS.2.2.1, (hb.cell (cell_size hS.2.2.2)).trans hS.2.2.2⟩
      refine hK _ _ hS3 ?_
      clear hK K
      (try simp only [Act.put, List.setIfInBounds_toArray, List.set_cons_zero, List.set_cons_succ])
      refine step_list (i := 9) (by kernel_rfl) rfl (by rfl) (fun K hK => ?_)
      go_simp
      have hS4 : (fun w' : World => w'.cell? ⟨w.heap.size, 0, none⟩ = some (.int .i64 f1) ∧ w'.cell? ⟨w.heap.size, 1, none⟩ = some (.int .i64 f2) ∧ w'.cell? ⟨w.heap.size + 1, 0, none⟩ = some (.int .i64 t1) ∧ w'.cell? ⟨w.heap.size + 1, 1, none⟩ = some (.int .i64 t2)) ((W.alloc (.cells #[.int .i64 f1, .int .i64 f2, .int .i64 t1, .int .i64 t2, .int .i64 1, .int .i64 1099511627776, .int .i64 (-1), .int .i64 0] 114)).alloc (.cells #[.int .i64 t1, .int .i64 t2, .int .i64 f1, .int .i64 f2, .int .i64 1, .int .i64 1099511627776, .int .i64 (-1), .int .i64 0] 114)).drew := by
        have hb := ((Below.refl W.heap.size W).alloc (Nat.le_refl _) (.cells #[.int .i64 f1, .int .i64 f2, .int .i64 t1, .int .i64 t2, .int .i64 1, .int .i64 1099511627776, .int .i64 (-1), .int .i64 0] 114)).alloc (by simp) (.cells #[.int .i64 t1, .int .i64 t2, .int .i64 f1, .int .i64 f2, .int .i64 1, .int .i64 1099511627776, .int .i64 (-1), .int .i64 0] 114)
        exact ⟨(hb.cell (cell_size hS.1)).trans hS.1, (hb.cell (cell_size hS.2.1)).trans hS.2.1, (hb.cell (cell_size hS.2.2.1)).trans hS.2.2.1, (hb.cell (cell_size hS.2.2.2)).trans hS.2.2.2⟩
      refine hK _ _ hS4 ?_
      clear hK K
      (try simp only [Act.put, List.setIfInBounds_toArray, List.set_cons_zero, List.set_cons_succ])
      refine wpAnyH_done (by kernel_rfl) ?_ _
      go_wp2_with fail
      go_meet
      case rel =>
        obtain ⟨e1, e2, hsz⟩ := HE.out
        refine ⟨W.heap.size, W.heap.size + 1, rfl, rfl, Lib.hid ⟨((heap_past (heap_alloc_last W _) _)), (by have := heap_alloc_last (W.alloc (.cells #[.int .i64 f1, .int .i64 f2, .int .i64 t1, .int .i64 t2, .int .i64 1, .int .i64 1099511627776, .int .i64 (-1), .int .i64 0] 114)) (.cells #[.int .i64 t1, .int .i64 t2, .int .i64 f1, .int .i64 f2, .int .i64 1, .int .i64 1099511627776, .int .i64 (-1), .int .i64 0] 114); rw [World.size_alloc] at this; exact this), ?_, ?_, by omega, by omega, by omega⟩, Lib.hid ((HBW.out.alloc HBW.out.size _).alloc (by have := HBW.out.size; simp; omega) _).drew⟩
        · have hb := ((Below.refl W.heap.size W).alloc (Nat.le_refl _) (.cells #[.int .i64 f1, .int .i64 f2, .int .i64 t1, .int .i64 t2, .int .i64 1, .int .i64 1099511627776, .int .i64 (-1), .int .i64 0] 114)).alloc (by simp) (.cells #[.int .i64 t1, .int .i64 t2, .int .i64 f1, .int .i64 f2, .int .i64 1, .int .i64 1099511627776, .int .i64 (-1), .int .i64 0] 114)
          exact (hb.cell (cell_size e1)).trans e1
        · have hb := ((Below.refl W.heap.size W).alloc (Nat.le_refl _) (.cells #[.int .i64 f1, .int .i64 f2, .int .i64 t1, .int .i64 t2, .int .i64 1, .int .i64 1099511627776, .int .i64 (-1), .int .i64 0] 114)).alloc (by simp) (.cells #[.int .i64 t1, .int .i64 t2, .int .i64 f1, .int .i64 f2, .int .i64 1, .int .i64 1099511627776, .int .i64 (-1), .int .i64 0] 114)
          exact (hb.cell (cell_size e2)).trans e2
    · go_simp
      have hS1 : (fun w' : World => w'.cell? ⟨w.heap.size, 0, none⟩ = some (.int .i64 f1) ∧ w'.cell? ⟨w.heap.size, 1, none⟩ = some (.int .i64 f2) ∧ w'.cell? ⟨w.heap.size + 1, 0, none⟩ = some (.int .i64 t1) ∧ w'.cell? ⟨w.heap.size + 1, 1, none⟩ = some (.int .i64 t2)) (W.alloc (.cells #[.int .i64 0, .int .i64 0, .int .i64 0, .int .i64 0, .int .i64 0, .int .i64 0, .int .i64 0, .int .i64 0] 114)).drew := by
        have hb := (Below.refl W.heap.size W).alloc (Nat.le_refl _) (.cells #[.int .i64 0, .int .i64 0, .int .i64 0, .int .i64 0, .int .i64 0, .int .i64 0, .int .i64 0, .int .i64 0] 114)
        exact ⟨(hb.cell (cell_size hS.1)).trans hS.1, (hb.cell (cell_size hS.2.1)).trans hS.2.1, (hb.cell (cell_size hS.2.2.1)).trans hS.2.2.1, (hb.cell (cell_size hS.2.2.2)).trans hS.2.2.2⟩
      refine hK _ _ hS1 ?_
      clear hK K
      (try simp only [Act.put, List.setIfInBounds_toArray, List.set_cons_zero, List.set_cons_succ])
      refine step_list (i := 6) (by kernel_rfl) rfl (by rfl) (fun K hK => ?_)
      go_simp
      have hS2 : (fun w' : World => w'.cell? ⟨w.heap.size, 0, none⟩ = some (.int .i64 f1) ∧ w'.cell? ⟨w.heap.size, 1, none⟩ = some (.int .i64 f2) ∧ w'.cell? ⟨w.heap.size + 1, 0, none⟩ = some (.int .i64 t1) ∧ w'.cell? ⟨w.heap.size + 1, 1, none⟩ = some (.int .i64 t2)) ((W.alloc (.cells #[.int .i64 0, .int .i64 0, .int .i64 0, .int .i64 0, .int .i64 0, .int .i64 0, .int .i64 0, .int .i64 0] 114)).alloc (.cells #[.int .i64 0, .int .i64 0, .int .i64 0, .int .i64 0, .int .i64 0, .int .i64 0, .int .i64 0, .int .i64 0] 114)).drew := by
        have hb := ((Below.refl W.heap.size W).alloc (Nat.le_refl _) (.cells #[.int .i64 0, .int .i64 0, .int .i64 0, .int .i64 0, .int .i64 0, .int .i64 0, .int .i64 0, .int .i64 0] 114)).alloc (by simp) (.cells #[.int .i64 0, .int .i64 0, .int .i64 0, .int .i64 0, .int .i64 0, .int .i64 0, .int .i64 0, .int .i64 0] 114)
        exact ⟨(hb.cell (cell_size hS.1)).trans hS.1, (hb.cell (cell_size hS.2.1)).trans hS.2.1, (hb.cell (cell_size hS.2.2.1)).trans hS.2.2.1, (hb.cell (cell_size hS.2.2.2)).trans hS.2.2.2⟩
      refine hK _ _ hS2 ?_
      clear hK K
      (try simp only [Act.put, List.setIfInBounds_toArray, List.set_cons_zero, List.set_cons_succ])
      refine step_list (i := 8) (by kernel_rfl) rfl (by rfl) (fun K hK => ?_)
      simp only [lkV, lkC]
      go_simp
      have hS3 : (fun w' : World => w'.cell? ⟨w.heap.size, 0, none⟩ = some (.int .i64 f1) ∧ w'.cell? ⟨w.heap.size, 1, none⟩ = some (.int .i64 f2) ∧ w'.cell? ⟨w.heap.size + 1, 0, none⟩ = some (.int .i64 t1) ∧ w'.cell? ⟨w.heap.size + 1, 1, none⟩ = some (.int .i64 t2)) ((W.alloc (.cells #[.int .i64 0, .int .i64 0, .int .i64 0, .int .i64 0, .int .i64 0, .int .i64 0, .int .i64 0, .int .i64 0] 114)).alloc (.cells #[.int .i64 f1, .int .i64 f2, .int .i64 t1, .int .i64 t2, .int .i64 1, .int .i64 1099511627776, .int .i64 (-1), .int .i64 0] 114)).drew := by
        have hb := ((Below.refl W.heap.size W).alloc (Nat.le_refl _) (.cells #[.int .i64 0, .int .i64 0, .int .i64 0, .int .i64 0, .int .i64 0, .int .i64 0, .int .i64 0, .int .i64 0] 114)).alloc (by simp) (.cells #[.int .i64 f1, .int .i64 f2, .int .i64 t1, .int .i64 t2, .int .i64 1, .int .i64 1099511627776, .int .i64 (-1), .int .i64 0] 114)
        exact ⟨(hb.cell (cell_size hS.1)).trans hS.1, (hb.cell (cell_size hS.2.1)).trans hS.2.1, (hb.cell (cell_size hS.2.2.1)).trans hS.2.2.1, (hb.cell (cell_size hS.2.2.2)).trans hS.2.2.2⟩
      refine hK _ _ hS3 ?_
      clear hK K
      (try simp only [Act.put, List.setIfInBounds_toArray, List.set_cons_zero, List.set_cons_succ])
      refine step_list (i := 9) (by kernel_rfl) rfl (by rfl) (fun K hK => ?_)
      go_simp
      have hS4 : (fun w' : World => w'.cell? ⟨w.heap.size, 0, none⟩ = some (.int .i64 f1) ∧ w'.cell? ⟨w.heap.size, 1, none⟩ = some (.int .i64 f2) ∧ w'.cell? ⟨w.heap.size + 1, 0, none⟩ = some (.int .i64 t1) ∧ w'.cell? ⟨w.heap.size + 1, 1, none⟩ = some (.int .i64 t2)) ((W.alloc (.cells #[.int .i64 t1, .int .i64 t2, .int .i64 f1, .int .i64 f2, .int .i64 1, .int .i64 1099511627776, .int .i64 (-1), .int .i64 0] 114)).alloc (.cells #[.int .i64 f1, .int .i64 f2, .int .i64 t1, .int .i64 t2, .int .i64 1, .int .i64 1099511627776, .int .i64 (-1), .int .i64 0] 114)).drew := by
        have hb := ((Below.refl W.heap.size W).alloc (Nat.le_refl _) (.cells #[.int .i64 t1, .int .i64 t2, .int .i64 f1, .int .i64 f2, .int .i64 1, .int .i64 1099511627776, .int .i64 (-1), .int .i64 0] 114)).alloc (by simp) (.cells #[.int .i64 f1, .int .i64 f2, .int .i64 t1, .int .i64 t2, .int .i64 1, .int .i64 1099511627776, .int .i64 (-1), .int .i64 0] 114)
        exact ⟨(hb.cell (cell_size hS.1)).trans hS.1, (hb.cell (cell_size hS.2.1)).trans hS.2.1, (hb.cell (cell_size hS.2.2.1)).trans hS.2.2.1, (hb.cell (cell_size hS.2.2.2)).trans hS.2.2.2⟩
      refine hK _ _ hS4 ?_
      clear hK K
      (try simp only [Act.put, List.setIfInBounds_toArray, List.set_cons_zero, List.set_cons_succ])
      refine wpAnyH_done (by kernel_rfl) ?_ _
      go_wp2_with fail
      go_meet
      case rel =>
        obtain ⟨e1, e2, hsz⟩ := HE.out
        refine ⟨W.heap.size + 1, W.heap.size, rfl, rfl, Lib.hid ⟨(by have := heap_alloc_last (W.alloc (.cells #[.int .i64 t1, .int .i64 t2, .int .i64 f1, .int .i64 f2, .int .i64 1, .int .i64 1099511627776, .int .i64 (-1), .int .i64 0] 114)) (.cells #[.int .i64 f1, .int .i64 f2, .int .i64 t1, .int .i64 t2, .int .i64 1, .int .i64 1099511627776, .int .i64 (-1), .int .i64 0] 114); rw [World.size_alloc] at this; exact this), ((heap_past (heap_alloc_last W _) _)), ?_, ?_, by omega, by omega, by omega⟩, Lib.hid ((HBW.out.alloc HBW.out.size _).alloc (by have := HBW.out.size; simp; omega) _).drew⟩
        · have hb := ((Below.refl W.heap.size W).alloc (Nat.le_refl _) (.cells #[.int .i64 t1, .int .i64 t2, .int .i64 f1, .int .i64 f2, .int .i64 1, .int .i64 1099511627776, .int .i64 (-1), .int .i64 0] 114)).alloc (by simp) (.cells #[.int .i64 f1, .int .i64 f2, .int .i64 t1, .int .i64 t2, .int .i64 1, .int .i64 1099511627776, .int .i64 (-1), .int .i64 0] 114)
          exact (hb.cell (cell_size e1)).trans e1
        · have hb := ((Below.refl W.heap.size W).alloc (Nat.le_refl _) (.cells #[.int .i64 t1, .int .i64 t2, .int .i64 f1, .int .i64 f2, .int .i64 1, .int .i64 1099511627776, .int .i64 (-1), .int .i64 0] 114)).alloc (by simp) (.cells #[.int .i64 f1, .int .i64 f2, .int .i64 t1, .int .i64 t2, .int .i64 1, .int .i64 1099511627776, .int .i64 (-1), .int .i64 0] 114)
          exact (hb.cell (cell_size e2)).trans e2
  case rest =>
    obtain ⟨g9, g10, rfl, rfl, HP, HB⟩ := hcut
    clear hS HBW HE
    obtain ⟨b7, h7⟩ : ∃ b, b = w.heap.size + 1 + 1 := ⟨_, rfl⟩
    have HW7 : Hid (w.heap.size ≤ b7) := Lib.hid (by omega)
    rw [← h7] at HP ⊢
    clear h7
    go_upto_block 0 with fail
    go_cut [] (fun wc => Hid (Pair2 wc b7 g9 g10 ⟨(f1, f2), (t1, t2), upWr n (r1, r2), upRm n (r1, r2), -1, 0⟩ ⟨(t1, t2), (f1, f2), 1, 1099511627776, -1, 0⟩ (r1, r2)) ∧ Hid (Below w.heap.size w wc))
    case first =>
      have q1 := HP.out.c
      have q2 := HP.out.d
      by_cases k1 : n < r1
      · have d1 : decide (n < r1) = true := decide_eq_true k1
        have EQ : Hid (upWr n (r1, r2) = -1 ∧ upRm n (r1, r2) = r1 - n) := Lib.hid ⟨if_pos k1, if_pos k1⟩
        go_upto_region 3 with fail
        have hS : (fun w' : World => w'.cell? ⟨b7, 0, none⟩ = some (.int .i64 r1)) wc.drew := q1
        have ca : wc.drew.cell? ⟨g9, 4, none⟩ = some (.int .i64 1) := by show wc.cell? _ = _; rw [cell_of_row wc _ _ _ _ _ HP.out.a]; rfl
        have cb : (wc.setCell ⟨g9, 4, none⟩ (.int .i64 (-1))).drew.cell? ⟨g9, 5, none⟩ = some (.int .i64 1099511627776) := by show (wc.setCell _ _).cell? _ = _; rw [cell_of_row _ _ _ _ _ _ (heap_setCell_same _ g9 4 _ _ _ HP.out.a)]; rfl
        have fa : wc.drew.frozen? ⟨g9, 4, none⟩ = false := frozen_of_row wc _ 4 _ _ HP.out.a
        have fb : (wc.setCell ⟨g9, 4, none⟩ (.int .i64 (-1))).drew.frozen? ⟨g9, 5, none⟩ = false := frozen_of_row _ _ 5 _ _ (heap_setCell_same _ g9 4 _ _ _ HP.out.a)
        have HU := Lib.hid (HP.out.up (-1) (r1 - n))
        refine wp_region_held_list (k := 8) rfl (fun w' : World => w'.cell? ⟨b7, 0, none⟩ = some (.int .i64 r1)) (by kernel_rfl) ?_
        refine tk 0 (.pointer (some ⟨b7, 0, none⟩)) rfl (fun w' hw' => by go_simp) hS ?_
        refine tk 1 (.int .i64 r1) rfl (fun w' hw' => by go_simp) hS ?_
        refine tk 2 (.int .i64 n) rfl (fun w' hw' => by go_simp) hS ?_
        refine tk 3 (.int .i64 (r1 - n)) rfl (fun w' hw' => by go_simp; exact IntWalk.i64_in _ (by omega)) hS ?_
        refine tk 4 (.pointer (some ⟨g9, 4, none⟩)) rfl (fun w' hw' => by go_simp) hS ?_
        refine step_list (i := 5) (by kernel_rfl) rfl (by rfl) (fun K hK => ?_)
        go_simp
        have hS5 : (fun w' : World => w'.cell? ⟨b7, 0, none⟩ = some (.int .i64 r1)) (wc.setCell ⟨g9, 4, none⟩ (.int .i64 (-1))).drew := by show (wc.setCell _ _).cell? _ = _; rw [World.cell?_setCell_other _ _ _ _ (by simp)]; exact hS
        refine hK _ _ hS5 ?_
        clear hK K
        (try simp only [Act.put, List.setIfInBounds_toArray, List.set_cons_zero, List.set_cons_succ])
        refine take_list (i := 6) (v := .pointer (some ⟨g9, 5, none⟩)) rfl (by kernel_rfl) (by kernel_rfl) (by kernel_rfl) (fun _ _ _ h => h) (by rfl) (by intro w' hw'; go_simp) hS5 ?_
        (try simp only [Act.put, List.setIfInBounds_toArray, List.set_cons_zero, List.set_cons_succ])
        refine step_list (i := 7) (by kernel_rfl) rfl (by rfl) (fun K hK => ?_)
        go_simp
        have hS7 : (fun w' : World => w'.cell? ⟨b7, 0, none⟩ = some (.int .i64 r1)) ((wc.setCell ⟨g9, 4, none⟩ (.int .i64 (-1))).setCell ⟨g9, 5, none⟩ (.int .i64 (r1 - n))).drew := by show ((wc.setCell _ _).setCell _ _).cell? _ = _; rw [World.cell?_setCell_other _ _ _ _ (by simp)]; exact hS5
        refine hK _ _ hS7 ?_
        clear hK K
        (try simp only [Act.put, List.setIfInBounds_toArray, List.set_cons_zero, List.set_cons_succ])
        refine wpAnyH_done (by kernel_rfl) ?_ _
        go_wp2_with fail
        go_meet
        case rel => exact ⟨Lib.hid (by rw [EQ.out.1, EQ.out.2]; exact HU.out.drew), Lib.hid ((HB.out.setCell (p := ⟨g9, 4, none⟩) (by have := HP.out.n1; have := HW7.out; simp only; omega) _).setCell (p := ⟨g9, 5, none⟩) (by have := HP.out.n1; have := HW7.out; simp only; omega) _).drew⟩
      · have d1 : decide (n < r1) = false := decide_eq_false k1
        by_cases k2 : n < r2
        · have d2 : decide (n < r2) = true := decide_eq_true k2
          have EQ : Hid (upWr n (r1, r2) = 0 ∧ upRm n (r1, r2) = r2 - n) := Lib.hid ⟨(if_neg k1).trans (if_pos k2), (if_neg k1).trans (if_pos k2)⟩
          go_upto_region 5 with fail
          have hS : (fun w' : World => w'.cell? ⟨b7, 1, none⟩ = some (.int .i64 r2)) wc.drew := q2
          have ca : wc.drew.cell? ⟨g9, 4, none⟩ = some (.int .i64 1) := by show wc.cell? _ = _; rw [cell_of_row wc _ _ _ _ _ HP.out.a]; rfl
          have cb : (wc.setCell ⟨g9, 4, none⟩ (.int .i64 0)).drew.cell? ⟨g9, 5, none⟩ = some (.int .i64 1099511627776) := by show (wc.setCell _ _).cell? _ = _; rw [cell_of_row _ _ _ _ _ _ (heap_setCell_same _ g9 4 _ _ _ HP.out.a)]; rfl
          have fa : wc.drew.frozen? ⟨g9, 4, none⟩ = false := frozen_of_row wc _ 4 _ _ HP.out.a
          have fb : (wc.setCell ⟨g9, 4, none⟩ (.int .i64 0)).drew.frozen? ⟨g9, 5, none⟩ = false := frozen_of_row _ _ 5 _ _ (heap_setCell_same _ g9 4 _ _ _ HP.out.a)
          have HU := Lib.hid (HP.out.up 0 (r2 - n))
          refine wp_region_held_list (k := 8) rfl (fun w' : World => w'.cell? ⟨b7, 1, none⟩ = some (.int .i64 r2)) (by kernel_rfl) ?_
          refine tk 0 (.pointer (some ⟨b7, 1, none⟩)) rfl (fun w' hw' => by go_simp) hS ?_
          refine tk 1 (.int .i64 r2) rfl (fun w' hw' => by go_simp) hS ?_
          refine tk 2 (.int .i64 n) rfl (fun w' hw' => by go_simp) hS ?_
          refine tk 3 (.int .i64 (r2 - n)) rfl (fun w' hw' => by go_simp; exact IntWalk.i64_in _ (by omega)) hS ?_
          refine tk 4 (.pointer (some ⟨g9, 4, none⟩)) rfl (fun w' hw' => by go_simp) hS ?_
          refine step_list (i := 5) (by kernel_rfl) rfl (by rfl) (fun K hK => ?_)
          go_simp
          have hS5 : (fun w' : World => w'.cell? ⟨b7, 1, none⟩ = some (.int .i64 r2)) (wc.setCell ⟨g9, 4, none⟩ (.int .i64 0)).drew := by show (wc.setCell _ _).cell? _ = _; rw [World.cell?_setCell_other _ _ _ _ (by simp)]; exact hS
          refine hK _ _ hS5 ?_
          clear hK K
          (try simp only [Act.put, List.setIfInBounds_toArray, List.set_cons_zero, List.set_cons_succ])
          refine take_list (i := 6) (v := .pointer (some ⟨g9, 5, none⟩)) rfl (by kernel_rfl) (by kernel_rfl) (by kernel_rfl) (fun _ _ _ h => h) (by rfl) (by intro w' hw'; go_simp) hS5 ?_
          (try simp only [Act.put, List.setIfInBounds_toArray, List.set_cons_zero, List.set_cons_succ])
          refine step_list (i := 7) (by kernel_rfl) rfl (by rfl) (fun K hK => ?_)
          go_simp
          have hS7 : (fun w' : World => w'.cell? ⟨b7, 1, none⟩ = some (.int .i64 r2)) ((wc.setCell ⟨g9, 4, none⟩ (.int .i64 0)).setCell ⟨g9, 5, none⟩ (.int .i64 (r2 - n))).drew := by show ((wc.setCell _ _).setCell _ _).cell? _ = _; rw [World.cell?_setCell_other _ _ _ _ (by simp)]; exact hS5
          refine hK _ _ hS7 ?_
          clear hK K
          (try simp only [Act.put, List.setIfInBounds_toArray, List.set_cons_zero, List.set_cons_succ])
          refine wpAnyH_done (by kernel_rfl) ?_ _
          go_wp2_with fail
          go_meet
          case rel => exact ⟨Lib.hid (by rw [EQ.out.1, EQ.out.2]; exact HU.out.drew), Lib.hid ((HB.out.setCell (p := ⟨g9, 4, none⟩) (by have := HP.out.n1; have := HW7.out; simp only; omega) _).setCell (p := ⟨g9, 5, none⟩) (by have := HP.out.n1; have := HW7.out; simp only; omega) _).drew⟩
        · have d2 : decide (n < r2) = false := decide_eq_false k2
          have EQ : Hid (upWr n (r1, r2) = 1 ∧ upRm n (r1, r2) = 1099511627776) := Lib.hid ⟨(if_neg k1).trans (if_neg k2), (if_neg k1).trans (if_neg k2)⟩
          go_wp2_with fail
          go_meet
          case rel => exact ⟨Lib.hid (by rw [EQ.out.1, EQ.out.2]; exact HP.out), HB⟩
    case rest =>
      clear HP HB
      obtain ⟨HP, HB⟩ := hcut
      go_upto_block 1 with fail
      go_cut [] (fun wc => Hid (Pair2 wc b7 g9 g10 ⟨(f1, f2), (t1, t2), upWr n (r1, r2), upRm n (r1, r2), -1, 0⟩ ⟨(t1, t2), (f1, f2), dnWr n (r1, r2), dnRm n (r1, r2), -1, 0⟩ (r1, r2)) ∧ Hid (Below w.heap.size w wc))
      case first =>
        have q1 := HP.out.c
        have q2 := HP.out.d
        by_cases k1 : r2 < n
        · have d1 : decide (r2 < n) = true := decide_eq_true k1
          have EQ : Hid (dnWr n (r1, r2) = -1 ∧ dnRm n (r1, r2) = n - r2) := Lib.hid ⟨if_pos k1, if_pos k1⟩
          go_upto_region 7 with fail
          have hS : (fun w' : World => w'.cell? ⟨b7, 1, none⟩ = some (.int .i64 r2)) wc.drew := q2
          have ca : wc.drew.cell? ⟨g10, 4, none⟩ = some (.int .i64 1) := by show wc.cell? _ = _; rw [cell_of_row wc _ _ _ _ _ HP.out.b]; rfl
          have cb : (wc.setCell ⟨g10, 4, none⟩ (.int .i64 (-1))).drew.cell? ⟨g10, 5, none⟩ = some (.int .i64 1099511627776) := by show (wc.setCell _ _).cell? _ = _; rw [cell_of_row _ _ _ _ _ _ (heap_setCell_same _ g10 4 _ _ _ HP.out.b)]; rfl
          have fa : wc.drew.frozen? ⟨g10, 4, none⟩ = false := frozen_of_row wc _ 4 _ _ HP.out.b
          have fb : (wc.setCell ⟨g10, 4, none⟩ (.int .i64 (-1))).drew.frozen? ⟨g10, 5, none⟩ = false := frozen_of_row _ _ 5 _ _ (heap_setCell_same _ g10 4 _ _ _ HP.out.b)
          have HU := Lib.hid (HP.out.dn (-1) (n - r2))
          refine wp_region_held_list (k := 8) rfl (fun w' : World => w'.cell? ⟨b7, 1, none⟩ = some (.int .i64 r2)) (by kernel_rfl) ?_
          refine tk 0 (.int .i64 n) rfl (fun w' hw' => by go_simp) hS ?_
          refine tk 1 (.pointer (some ⟨b7, 1, none⟩)) rfl (fun w' hw' => by go_simp) hS ?_
          refine tk 2 (.int .i64 r2) rfl (fun w' hw' => by go_simp) hS ?_
          refine tk 3 (.int .i64 (n - r2)) rfl (fun w' hw' => by go_simp; exact IntWalk.i64_in _ (by omega)) hS ?_
          refine tk 4 (.pointer (some ⟨g10, 4, none⟩)) rfl (fun w' hw' => by go_simp) hS ?_
          refine step_list (i := 5) (by kernel_rfl) rfl (by rfl) (fun K hK => ?_)
          go_simp
          have hS5 : (fun w' : World => w'.cell? ⟨b7, 1, none⟩ = some (.int .i64 r2)) (wc.setCell ⟨g10, 4, none⟩ (.int .i64 (-1))).drew := by show (wc.setCell _ _).cell? _ = _; rw [World.cell?_setCell_other _ _ _ _ (by simp)]; exact hS
          refine hK _ _ hS5 ?_
          clear hK K
          (try simp only [Act.put, List.setIfInBounds_toArray, List.set_cons_zero, List.set_cons_succ])
          refine take_list (i := 6) (v := .pointer (some ⟨g10, 5, none⟩)) rfl (by kernel_rfl) (by kernel_rfl) (by kernel_rfl) (fun _ _ _ h => h) (by rfl) (by intro w' hw'; go_simp) hS5 ?_
          (try simp only [Act.put, List.setIfInBounds_toArray, List.set_cons_zero, List.set_cons_succ])
          refine step_list (i := 7) (by kernel_rfl) rfl (by rfl) (fun K hK => ?_)
          go_simp
          have hS7 : (fun w' : World => w'.cell? ⟨b7, 1, none⟩ = some (.int .i64 r2)) ((wc.setCell ⟨g10, 4, none⟩ (.int .i64 (-1))).setCell ⟨g10, 5, none⟩ (.int .i64 (n - r2))).drew := by show ((wc.setCell _ _).setCell _ _).cell? _ = _; rw [World.cell?_setCell_other _ _ _ _ (by simp)]; exact hS5
          refine hK _ _ hS7 ?_
          clear hK K
          (try simp only [Act.put, List.setIfInBounds_toArray, List.set_cons_zero, List.set_cons_succ])
          refine wpAnyH_done (by kernel_rfl) ?_ _
          go_wp2_with fail
          go_meet
          case rel => exact ⟨Lib.hid (by rw [EQ.out.1, EQ.out.2]; exact HU.out.drew), Lib.hid ((HB.out.setCell (p := ⟨g10, 4, none⟩) (by have := HP.out.n2; have := HW7.out; simp only; omega) _).setCell (p := ⟨g10, 5, none⟩) (by have := HP.out.n2; have := HW7.out; simp only; omega) _).drew⟩
        · have d1 : decide (r2 < n) = false := decide_eq_false k1
          by_cases k2 : r1 < n
          · have d2 : decide (r1 < n) = true := decide_eq_true k2
            have EQ : Hid (dnWr n (r1, r2) = 0 ∧ dnRm n (r1, r2) = n - r1) := Lib.hid ⟨(if_neg k1).trans (if_pos k2), (if_neg k1).trans (if_pos k2)⟩
            go_upto_region 9 with fail
            have hS : (fun w' : World => w'.cell? ⟨b7, 0, none⟩ = some (.int .i64 r1)) wc.drew := q1
            have ca : wc.drew.cell? ⟨g10, 4, none⟩ = some (.int .i64 1) := by show wc.cell? _ = _; rw [cell_of_row wc _ _ _ _ _ HP.out.b]; rfl
            have cb : (wc.setCell ⟨g10, 4, none⟩ (.int .i64 0)).drew.cell? ⟨g10, 5, none⟩ = some (.int .i64 1099511627776) := by show (wc.setCell _ _).cell? _ = _; rw [cell_of_row _ _ _ _ _ _ (heap_setCell_same _ g10 4 _ _ _ HP.out.b)]; rfl
            have fa : wc.drew.frozen? ⟨g10, 4, none⟩ = false := frozen_of_row wc _ 4 _ _ HP.out.b
            have fb : (wc.setCell ⟨g10, 4, none⟩ (.int .i64 0)).drew.frozen? ⟨g10, 5, none⟩ = false := frozen_of_row _ _ 5 _ _ (heap_setCell_same _ g10 4 _ _ _ HP.out.b)
            have HU := Lib.hid (HP.out.dn 0 (n - r1))
            refine wp_region_held_list (k := 8) rfl (fun w' : World => w'.cell? ⟨b7, 0, none⟩ = some (.int .i64 r1)) (by kernel_rfl) ?_
            refine tk 0 (.int .i64 n) rfl (fun w' hw' => by go_simp) hS ?_
            refine tk 1 (.pointer (some ⟨b7, 0, none⟩)) rfl (fun w' hw' => by go_simp) hS ?_
            refine tk 2 (.int .i64 r1) rfl (fun w' hw' => by go_simp) hS ?_
            refine tk 3 (.int .i64 (n - r1)) rfl (fun w' hw' => by go_simp; exact IntWalk.i64_in _ (by omega)) hS ?_
            refine tk 4 (.pointer (some ⟨g10, 4, none⟩)) rfl (fun w' hw' => by go_simp) hS ?_
            refine step_list (i := 5) (by kernel_rfl) rfl (by rfl) (fun K hK => ?_)
            go_simp
            have hS5 : (fun w' : World => w'.cell? ⟨b7, 0, none⟩ = some (.int .i64 r1)) (wc.setCell ⟨g10, 4, none⟩ (.int .i64 0)).drew := by show (wc.setCell _ _).cell? _ = _; rw [World.cell?_setCell_other _ _ _ _ (by simp)]; exact hS
            refine hK _ _ hS5 ?_
            clear hK K
            (try simp only [Act.put, List.setIfInBounds_toArray, List.set_cons_zero, List.set_cons_succ])
            refine take_list (i := 6) (v := .pointer (some ⟨g10, 5, none⟩)) rfl (by kernel_rfl) (by kernel_rfl) (by kernel_rfl) (fun _ _ _ h => h) (by rfl) (by intro w' hw'; go_simp) hS5 ?_
            (try simp only [Act.put, List.setIfInBounds_toArray, List.set_cons_zero, List.set_cons_succ])
            refine step_list (i := 7) (by kernel_rfl) rfl (by rfl) (fun K hK => ?_)
            go_simp
            have hS7 : (fun w' : World => w'.cell? ⟨b7, 0, none⟩ = some (.int .i64 r1)) ((wc.setCell ⟨g10, 4, none⟩ (.int .i64 0)).setCell ⟨g10, 5, none⟩ (.int .i64 (n - r1))).drew := by show ((wc.setCell _ _).setCell _ _).cell? _ = _; rw [World.cell?_setCell_other _ _ _ _ (by simp)]; exact hS5
            refine hK _ _ hS7 ?_
            clear hK K
            (try simp only [Act.put, List.setIfInBounds_toArray, List.set_cons_zero, List.set_cons_succ])
            refine wpAnyH_done (by kernel_rfl) ?_ _
            go_wp2_with fail
            go_meet
            case rel => exact ⟨Lib.hid (by rw [EQ.out.1, EQ.out.2]; exact HU.out.drew), Lib.hid ((HB.out.setCell (p := ⟨g10, 4, none⟩) (by have := HP.out.n2; have := HW7.out; simp only; omega) _).setCell (p := ⟨g10, 5, none⟩) (by have := HP.out.n2; have := HW7.out; simp only; omega) _).drew⟩
          · have d2 : decide (r1 < n) = false := decide_eq_false k2
            have EQ : Hid (dnWr n (r1, r2) = 1 ∧ dnRm n (r1, r2) = 1099511627776) := Lib.hid ⟨(if_neg k1).trans (if_neg k2), (if_neg k1).trans (if_neg k2)⟩
            go_wp2_with fail
            go_meet
            case rel => exact ⟨Lib.hid (by rw [EQ.out.1, EQ.out.2]; exact HP.out), HB⟩
      case rest =>
        clear HP HB
        obtain ⟨HP, HB⟩ := hcut
        obtain ⟨u1, hu1'⟩ : ∃ u, u = upWr n (r1, r2) := ⟨_, rfl⟩
        obtain ⟨u2, hu2'⟩ : ∃ u, u = upRm n (r1, r2) := ⟨_, rfl⟩
        obtain ⟨v1, hv1⟩ : ∃ u, u = dnWr n (r1, r2) := ⟨_, rfl⟩
        obtain ⟨v2, hv2⟩ : ∃ u, u = dnRm n (r1, r2) := ⟨_, rfl⟩
        rw [← hu1', ← hu2', ← hv1, ← hv2] at HP
        have HEQ := Lib.hid (And.intro hu1' (And.intro hu2' (And.intro hv1 hv2)))
        clear hu1' hu2' hv1 hv2
        have ha := HP.out.a
        have hb := HP.out.b
        have x0 : wc.cell? ⟨g9, 0, none⟩ = some (.int .i64 f1) := by rw [cell_of_row _ _ _ _ _ _ ha]; rfl
        have x1 : wc.cell? ⟨g9, 1, none⟩ = some (.int .i64 f2) := by rw [cell_of_row _ _ _ _ _ _ ha]; rfl
        have x2 : wc.cell? ⟨g9, 2, none⟩ = some (.int .i64 t1) := by rw [cell_of_row _ _ _ _ _ _ ha]; rfl
        have x3 : wc.cell? ⟨g9, 3, none⟩ = some (.int .i64 t2) := by rw [cell_of_row _ _ _ _ _ _ ha]; rfl
        have x4 : wc.cell? ⟨g9, 4, none⟩ = some (.int .i64 u1) := by rw [cell_of_row _ _ _ _ _ _ ha]; rfl
        have x5 : wc.cell? ⟨g9, 5, none⟩ = some (.int .i64 u2) := by rw [cell_of_row _ _ _ _ _ _ ha]; rfl
        have x6 : wc.cell? ⟨g9, 6, none⟩ = some (.int .i64 (-1)) := by rw [cell_of_row _ _ _ _ _ _ ha]; rfl
        have x7 : wc.cell? ⟨g9, 7, none⟩ = some (.int .i64 0) := by rw [cell_of_row _ _ _ _ _ _ ha]; rfl
        have y0 : wc.cell? ⟨g10, 0, none⟩ = some (.int .i64 t1) := by rw [cell_of_row _ _ _ _ _ _ hb]; rfl
        have y1 : wc.cell? ⟨g10, 1, none⟩ = some (.int .i64 t2) := by rw [cell_of_row _ _ _ _ _ _ hb]; rfl
        have y2 : wc.cell? ⟨g10, 2, none⟩ = some (.int .i64 f1) := by rw [cell_of_row _ _ _ _ _ _ hb]; rfl
        have y3 : wc.cell? ⟨g10, 3, none⟩ = some (.int .i64 f2) := by rw [cell_of_row _ _ _ _ _ _ hb]; rfl
        have y4 : wc.cell? ⟨g10, 4, none⟩ = some (.int .i64 v1) := by rw [cell_of_row _ _ _ _ _ _ hb]; rfl
        have y5 : wc.cell? ⟨g10, 5, none⟩ = some (.int .i64 v2) := by rw [cell_of_row _ _ _ _ _ _ hb]; rfl
        have y6 : wc.cell? ⟨g10, 6, none⟩ = some (.int .i64 (-1)) := by rw [cell_of_row _ _ _ _ _ _ hb]; rfl
        have y7 : wc.cell? ⟨g10, 7, none⟩ = some (.int .i64 0) := by rw [cell_of_row _ _ _ _ _ _ hb]; rfl
        clear ha hb
        go_wp2_with fail
        go_ret
        refine ⟨wc.heap.size, rfl, HB.out.size, ?_, HB.out.alloc HB.out.size _⟩
        have := heap_alloc_last wc (.cells (lksC (bothL (f1, f2) (t1, t2) n (r1, r2))).toArray 114)
        unfold bothL at this
        rw [← HEQ.out.1, ← HEQ.out.2.1, ← HEQ.out.2.2.1, ← HEQ.out.2.2.2] at this
        unfold bothL
        rw [← HEQ.out.1, ← HEQ.out.2.1, ← HEQ.out.2.2.1, ← HEQ.out.2.2.2]
        exact this
end Go.Proofs.YtcbhnhoicecnnaaDoor.Hand
namespace Go.Proofs.YtcbhnhoicecnnaaDoor.Hand
set_option linter.unusedVariables false
set_option linter.unusedSimpArgs false
open Go.RowKit Go.Proofs.YtcbhnhoicecnnaaDoorW.PrintWords Go.Proofs.YtcbhnhoicecnnaaDoorW.PrintLast
section
variable {P : Program} {md : Region.Mode} {S : World → Prop} {Q : Exit → Act → World → Prop}
theorem wp_region_last_list {l : List Oper} {k id : Nat} {a : Act} {w : World} (hk : l.length = k) (S : World → Prop) (ds : List Nat) (hm : P.follows .mixedOrders = true)
    (h : wpAnyLast P .any l.toArray Q S ds k (Array.replicate k false) a w.drew) : (Code.region id l.toArray true).wp P Q a w := by
  subst hk
  exact wp_region_last hm (by simpa using h)
theorem take_listL {l : List Oper} {ds : List Nat} {i : Nat} {oi : Oper} {v : Value} {fuel : Nat} {listed : Array Bool} {a : Act} {w : World} (hi : l[i]? = some oi)
    (hs : Region.noSelect l.toArray = true) (hf : Region.free md l.toArray listed i = true) (hr : (Region.ready md l.toArray listed).contains i = true)
    (hc : Region.closedB md l.toArray listed = true) (hl : Region.lastB md l.toArray listed ds i = true) (hQ : ∀ c a w, Q (.panic c) (a.put oi.dst v) w → Q (.panic c) a w)
    (hw : Region.wanted oi (yielded l.toArray a.tmps) = true) (hy : ∀ w, S w → (execOp a.eval oi).run P w = .ok (.value v) w) (hS : S w)
    (h : wpAnyLast P md l.toArray Q S ds fuel (listed.setIfInBounds i true) (a.put oi.dst v) w) : wpAnyLast P md l.toArray Q S ds (fuel + 1) listed a w :=
  wpAnyLast_take (by simpa using hi) hs hf hr hc hl hQ (Or.inl ⟨hw, hy⟩) hS h
theorem step_listL {l : List Oper} {ds : List Nat} {i : Nat} {o : Oper} {fuel : Nat} {listed : Array Bool} {a : Act} {w : World} (hr : Region.ready md l.toArray listed = [i]) (hi : l[i]? = some o) (hd : i ∉ ds) (hw : Region.wanted o (yielded l.toArray a.tmps) = true)
    (h : ∀ K : Act → World → Prop, (∀ a w, S w → wpAnyLast P md l.toArray Q S ds fuel (listed.setIfInBounds i true) a w → K a w) → Oper.wp P o a w K Q) : wpAnyLast P md l.toArray Q S ds (fuel + 1) listed a w :=
  wpAnyLast_ready hr (by simp) (AllReadyL.cons (by simpa using hi) hd (fun K hK => by rw [if_pos hw]; exact h K (fun a w hS hh => hK a w hS (fun _ => hh))) AllReadyL.nil)
theorem last_listL {l : List Oper} {ds : List Nat} {i : Nat} {o : Oper} {fuel : Nat} {listed : Array Bool} {a : Act} {w : World} (hr : Region.ready md l.toArray listed = [i]) (hi : l[i]? = some o) (hd : i ∈ ds) (hw : Region.wanted o (yielded l.toArray a.tmps) = true)
    (h : ∀ K : Act → World → Prop, (∀ a w, wpAnyLast P md l.toArray Q S ds fuel (listed.setIfInBounds i true) a w → K a w) → Oper.wp P o a w K Q) : wpAnyLast P md l.toArray Q S ds (fuel + 1) listed a w :=
  wpAnyLast_ready hr (by simp) (AllReadyL.cons_last (by simpa using hi) hd (fun K hK => by rw [if_pos hw]; exact h K (fun a w hh => hK a w hh)) AllReadyL.nil)
end
theorem cells_of_row {w : World} {g : Nat} {xs : List Value} {e : TypeId} (h : w.heap[g]? = some (.cells xs.toArray e (0, 0))) : ∀ j u, xs[j]? = some u → w.cell? ((⟨g, 0, none⟩ : Addr).add j) = some u := by
  intro j u hu
  rw [add_plain, cell_of_row w g j _ _ _ h]
  simpa using hu
end Go.Proofs.YtcbhnhoicecnnaaDoor.Hand
namespace Go.Proofs.YtcbhnhoicecnnaaDoor.Hand
set_option linter.unusedVariables false
set_option linter.unusedSimpArgs false
open Go.RowKit Go.Maps Go.Proofs.YtcbhnhoicecnnaaDoorW.PrintWords Go.Proofs.YtcbhnhoicecnnaaDoorW.PrintLast Go.Proofs.YtcbhnhoicecnnaaDoorW.PrintMore Go.Proofs.YtcbhnhoicecnnaaDoor.PrK
structure VarsAt (w : World) : Prop where
  g0 : w.cell? ⟨0, 0, none⟩ = some (.int .i64 0)
  g1 : w.cell? ⟨0, 1, none⟩ = some (.int .i64 0)
  b0 : w.cell? ⟨1, 0, none⟩ = some (.int .i64 3)
  b1 : w.cell? ⟨1, 1, none⟩ = some (.int .i64 0)
theorem VarsAt.below {w w' : World} (h : VarsAt w) (hb : Below w.heap.size w w') : VarsAt w' :=
  ⟨(hb.cell (cell_size h.g0)).trans h.g0, (hb.cell (cell_size h.g1)).trans h.g1, (hb.cell (cell_size h.b0)).trans h.b0, (hb.cell (cell_size h.b1)).trans h.b1⟩
def lkO (s : ShM) (t : List Int) (k : Nat) : List Lk := (List.range k).flatMap fun i => bothL gateN (ownN' i) (ownS s.l1.length (tat t) i) (rgAt s.sh.os i)
def lkP (s : ShM) (t : List Int) (k : Nat) : List Lk := lkO s t s.l0.length ++ (List.range k).flatMap fun p => bothL (pckN p) boomN (pckS s.l0.length s.l1.length (tat t) p) (rgAt s.sh.ps p)
def lkW (s : ShM) (t : List Int) : List Lk := lkP s t s.l1.length ++ bothL boomN gateN (allS s.l0.length s.l1.length (tat t)) (s.a2, s.a3)
def lkC2 (s : ShM) (t : List Int) (i : Nat) : List Lk := [⟨ownN' (i / s.l1.length), pckN (i % s.l1.length), 0, (rgAt s.sh.cs i).2 - tat t i, (i : Int), 1⟩, ⟨pckN (i % s.l1.length), ownN' (i / s.l1.length), 0, tat t i - (rgAt s.sh.cs i).1, (i : Int), -1⟩]
def lkA (s : ShM) (t : List Int) (k : Nat) : List Lk := lkW s t ++ (List.range k).flatMap (lkC2 s t)
theorem lkA_is (s : ShM) (t : List Int) : lkA s t s.l4.length = linksL s.sh (tat t) := by
  unfold lkA lkW lkP lkO linksL lkC2
  rw [ShM.len0, ShM.len1, ShM.len4]
  rfl
theorem lkO_succ (s : ShM) (t : List Int) (k : Nat) : lkO s t (k + 1) = lkO s t k ++ bothL gateN (ownN' k) (ownS s.l1.length (tat t) k) (rgAt s.sh.os k) := by
  unfold lkO; rw [List.range_succ, List.flatMap_append]; simp
theorem lkP_succ (s : ShM) (t : List Int) (k : Nat) : lkP s t (k + 1) = lkP s t k ++ bothL (pckN k) boomN (pckS s.l0.length s.l1.length (tat t) k) (rgAt s.sh.ps k) := by
  unfold lkP; rw [List.range_succ, List.flatMap_append, List.append_assoc]; simp
theorem lkA_succ (s : ShM) (t : List Int) (k : Nat) : lkA s t (k + 1) = lkA s t k ++ lkC2 s t k := by
  unfold lkA; rw [List.range_succ, List.flatMap_append, List.append_assoc]; simp
theorem lkO_length (s : ShM) (t : List Int) : ∀ k, (lkO s t k).length = 2 * k
  | 0 => rfl
  | k + 1 => by rw [lkO_succ, List.length_append, lkO_length s t k]; simp [bothL]; omega
theorem lkP_length (s : ShM) (t : List Int) : ∀ k, (lkP s t k).length = 2 * s.l0.length + 2 * k
  | 0 => by unfold lkP; rw [List.length_append, lkO_length]; rfl
  | k + 1 => by rw [lkP_succ, List.length_append, lkP_length s t k]; simp [bothL]; omega
theorem lkA_length (s : ShM) (t : List Int) : ∀ k, (lkA s t k).length = 2 * s.l0.length + 2 * s.l1.length + 2 + 2 * k
  | 0 => by unfold lkA lkW; rw [List.length_append, List.length_append, lkP_length]; simp [bothL]
  | k + 1 => by rw [lkA_succ, List.length_append, lkA_length s t k]; simp [lkC2]; omega
theorem lks_one (L : List Lk) : ∀ u ∈ lksC L, u.oneCell' = true := by
  intro u hu
  obtain ⟨x, -, hx⟩ := List.mem_flatMap.1 hu
  simp only [lkC, List.mem_cons, List.not_mem_nil, or_false] at hx
  rcases hx with rfl | rfl | rfl | rfl | rfl | rfl | rfl | rfl <;> rfl
theorem own_from' {w : World} {base n : Nat} {e : TypeId} {size : Nat} {v : Value} {xs : List Value} (h : w.ownsRow base e size v n xs) {j : Nat} (hj : v.ownBlock = some j) : base ≤ j := by
  rcases h.2 with ⟨rfl, _⟩ | ⟨g, cap, cur, rfl, hg, _⟩
  · cases hj
  · cases hj; exact hg
theorem own_opened {w : World} {base n : Nat} {e : TypeId} {size : Nat} {v : Value} {xs : List Value} (h : w.ownsRow base e size v n xs) : ∃ A c, v = .slice A n c := by
  rcases h.2 with ⟨rfl, rfl⟩ | ⟨g, cap, cur, rfl, _⟩
  · exact ⟨none, 0, rfl⟩
  · exact ⟨_, _, rfl⟩
theorem own_lower {w : World} {base base' n : Nat} {e : TypeId} {size : Nat} {v : Value} {xs : List Value} (h : w.ownsRow base e size v n xs) (hb : base' ≤ base) : w.ownsRow base' e size v n xs := by
  refine ⟨h.1, ?_⟩
  rcases h.2 with h2 | ⟨g, cap, cur, hv, hg, hr⟩
  · exact .inl h2
  · exact .inr ⟨g, cap, cur, hv, Nat.le_trans hb hg, hr⟩
theorem own_ne {w : World} {base n : Nat} {e : TypeId} {size : Nat} {v : Value} {xs : List Value} (h : w.ownsRow base e size v n xs) {b : Nat} (hb : b < base) : some b ≠ v.ownBlock := fun e => by
  have := own_from' h e.symm
  omega
structure LkSt (w w3 : World) (b3 n0 : Nat) (L : List Lk) (wr : World) : Prop where
  size : n0 ≤ wr.heap.size
  keep : ∀ k, k < n0 → k ≠ b3 → wr.heap[k]? = w3.heap[k]?
  below : Below w.heap.size w wr
  row : ∃ v, wr.heap[b3]? = some (.cells #[v] 106 (0, 0)) ∧ wr.ownsRow n0 114 8 v L.length (lksC L)
theorem LkSt.grow {w w3 wr wq : World} {b3 n0 : Nat} {L : List Lk} (h : LkSt w w3 b3 n0 L wr) (hb : Below wr.heap.size wr wq) (h3 : b3 < n0) : LkSt w w3 b3 n0 L wq := by
  obtain ⟨v, h1, h2⟩ := h.row
  exact ⟨Nat.le_trans h.size hb.size, fun k hk hn => (hb.block k (by have := h.size; omega)).trans (h.keep k hk hn), h.below.trans (hb.mono h.below.size), v, (hb.block b3 (by have := h.size; omega)).trans h1, pw_own_below h2 hb⟩
theorem own_setBox {w : World} {base n : Nat} {e : TypeId} {size : Nat} {v : Value} {xs : List Value} {b : Nat} (h : w.ownsRow base e size v n xs) (hb : b < base) (u : Value) : (w.setCell ⟨b, 0, none⟩ u).ownsRow base e size v n xs := by
  refine ⟨h.1, ?_⟩
  rcases h.2 with h2 | ⟨g, cap, cur, hv, hg, hh, hr⟩
  · exact .inl h2
  · exact .inr ⟨g, cap, cur, hv, hg, by rw [Below.heap_setCell w ⟨b, 0, none⟩ u g (by simp only; omega)]; exact hh, hr⟩
theorem LkSt.more {w w3 wr W W' : World} {b3 n0 : Nat} {L N : List Lk} {v v' : Value} (h : LkSt w w3 b3 n0 L wr) (hv : wr.heap[b3]? = some (.cells #[v] 106 (0, 0))) (ho : wr.ownsRow n0 114 8 v L.length (lksC L)) (h3 : b3 < n0) (hb : Below wr.heap.size wr W)
    (hw : w.heap.size ≤ b3) (hown : W'.ownsRow n0 114 8 v' (L.length + N.length) (lksC L ++ lksC N)) (hg : W.grownBy W' v.ownBlock) : LkSt w w3 b3 n0 (L ++ N) (W'.setCell ⟨b3, 0, none⟩ v') := by
  have hvb : ∀ j, v.ownBlock = some j → n0 ≤ j := by
    intro j hj
    rcases ho.2 with ⟨rfl, _⟩ | ⟨g, cap, cur, rfl, hg', _⟩
    · cases hj
    · cases hj; exact hg'
  have hk : ∀ k, k < n0 → W'.heap[k]? = wr.heap[k]? := fun k hk => by
    have hs := h.size
    rw [hg.block k (by have := hb.size; omega) (fun e => by have := hvb k e.symm; omega), hb.block k (by omega)]
  have hs : wr.heap.size ≤ W'.heap.size := Nat.le_trans hb.size hg.size
  refine ⟨by have := h.size; simp; omega, fun k hk' hn => ?_, ?_, v', ?_, ?_⟩
  · rw [Below.heap_setCell W' ⟨b3, 0, none⟩ v' k hn, hk k hk']
    exact h.keep k hk' hn
  · refine Below.setCell ?_ hw _
    exact (h.below.trans (hb.mono h.below.size)).grown hg (by have := h.below.size; have := hb.size; omega) (fun j e => by have := hvb j e; omega)
  · exact heap_setCell_same W' b3 0 _ _ _ ((hk b3 h3).trans hv)
  · rw [List.length_append, lksC_append]
    exact own_setBox hown h3 v'
set_option maxHeartbeats 4000000 in
set_option maxRecDepth 100000 in
theorem links_any (B Tb : Nat) (s : ShM) (fv : Value) (t : List Int) (w : World) (hv : VarsAt w) (h : BookAt w B Tb s fv t) (ht : TOk s t) :
    Calls Tryd.prog 82 #[.pointer (some ⟨B, 0, none⟩)] w fun e w' => ∃ b3 v, e = .returned (.func (.func 85) #[] #[.pointer (some ⟨b3, 0, none⟩)]) ∧ w'.heap[b3]? = some (.cells #[v] 106 (0, 0)) ∧
      w'.ownsRow w.heap.size 114 8 v (linksL s.sh (tat t)).length (lksC (linksL s.sh (tat t))) ∧ w.heap.size ≤ b3 ∧ v.ownBlock ≠ some b3 ∧ Below w.heap.size w w' := by
  obtain ⟨hz, hs⟩ := zero_of_info zero_sums
  have hu1 := Tryd.underlying92
  have hu2 := Tryd.underlying114
  have hu3 := Tryd.underlying24
  have HS := Lib.hid hs
  have HT := Lib.hid ht
  have HB := Lib.hid h
  have HV := Lib.hid hv
  obtain ⟨il, hil, hl0, hl1, hl2⟩ := info_parts infoLk
  clear hs hv h ht
  obtain ⟨wa, hwa⟩ : ∃ wa, wa = w.alloc (.cells #[.slice none 0 0] 106) := ⟨_, rfl⟩
  have hba : Below w.heap.size w wa := by rw [hwa]; exact (Below.refl _ _).alloc (Nat.le_refl _) _
  have HA3 : Hid (wa.heap[w.heap.size]? = some (.cells #[.slice none 0 0] 106 (0, 0))) := Lib.hid (by rw [hwa]; exact heap_alloc_last w _)
  have HBa := Lib.hid hba
  go_enter Tryd.func82, Tryd.ntmps82
  go_wp2_with fail
  rw [← hwa]
  clear hwa hba
  have ht := HT.out
  refine (owners_any B Tb s fv t wa (HB.out.below HBa.out) ht.m1 ht.quo ht.l25 ht.bd).mono ?_
  rintro e w2 ⟨rfl, hw⟩
  obtain ⟨f, hf⟩ : ∃ f, f = ownK s.l1.length (tat t) t.length := ⟨_, rfl⟩
  have HF := Lib.hid hf
  rw [← hf]
  have hsz : (cellsN 5 f).size = 5 := cellsN_size _ _
  have hst := run_storeCells_new (P := Tryd.prog) w2 100 (cellsN 5 fun _ => 0) (cellsN 5 f) (by rw [cellsN_size]; exact HS.out) (by rw [cellsN_size, cellsN_size]) (cellsN_one _ _)
  obtain ⟨b3, hb3⟩ : ∃ b3, b3 = w.heap.size := ⟨_, rfl⟩
  obtain ⟨S, hS⟩ : ∃ S, S = w2.heap.size := ⟨_, rfl⟩
  obtain ⟨w3, hw3⟩ : ∃ w3, w3 = w2.alloc (.cells (cellsN 5 f) 100) := ⟨_, rfl⟩
  have hbx : Below w2.heap.size w2 w3 := by rw [hw3]; exact (Below.refl _ _).alloc (Nat.le_refl _) _
  have hb03 := HBa.out.trans ((hw.trans (hbx.mono hw.size)).mono HBa.out.size)
  have HN : Hid (b3 < S ∧ S < w3.heap.size ∧ b3 = w.heap.size) := Lib.hid ⟨by rw [hb3, hS]; have := heap_lt HA3.out; have := hw.size; omega, by rw [hw3, hS]; simp, hb3⟩
  have HL0 : Hid (LkSt w w3 b3 w3.heap.size (lkO s t 0) w3) := Lib.hid ⟨Nat.le_refl _, fun _ _ _ => rfl, hb03, .slice none 0 0, by rw [hb3]; exact (hbx.block _ (by have := heap_lt HA3.out; have := hw.size; omega)).trans ((hw.block _ (heap_lt HA3.out)).trans HA3.out), ⟨rfl, .inl ⟨rfl, rfl⟩⟩⟩
  have HK3 := Lib.hid (HB.out.below hb03)
  have HS3 : Hid (w3.heap[S]? = some (.cells (cellsN 5 f) 100 (0, 0))) := Lib.hid (by rw [hw3, hS]; exact heap_alloc_last w2 _)
  have q0 := HK3.out.b0
  rw [hw3] at q0
  clear hw hf ht hbx hb03 HA3 HBa
  go_wp2_with fail
  rw [← hw3, ← hS]
  clear hst hw3 hS q0 hz
  rw [← hb3]
  clear hb3
  go_loopw [5, 6, 21] (fun _ _ i wr => ∃ k : Nat, k ≤ s.l0.length ∧ i = .int .i64 k ∧ Hid (LkSt w w3 b3 w3.heap.size (lkO s t k) wr)) (fun _ _ i _ => 60 - (intOf i).toNat)
  case atStart => exact ⟨0, Nat.zero_le _, rfl, HL0⟩
  case round =>
    obtain ⟨k, hk, rfl, HR⟩ := hrel
    have ht := HT.out
    have hk5 := ht.n5
    have HKr := Lib.hid (HB.out.below HR.out.below)
    by_cases hlt : k < s.l0.length
    · have hlt' : (k : Int) < (s.l0.length : Int) := by omega
      have p0 : (0 : Int) ≤ (k : Int) := by omega
      obtain ⟨ad, hae, h1, h2⟩ := at_rg HKr.out.rd.r0 hlt
      obtain ⟨g1, hg1⟩ : ∃ g, g = (rgAt (s.l0.map pr) k).1 := ⟨_, rfl⟩
      obtain ⟨g2, hg2⟩ : ∃ g, g = (rgAt (s.l0.map pr) k).2 := ⟨_, rfl⟩
      rw [← hg1] at h1
      rw [← hg2] at h2
      have cS : wr.cell? ⟨S, k, none⟩ = some (.int .i64 (f k)) := by
        rw [cell_of_row wr _ k _ _ _ ((HR.out.keep S HN.out.2.1 (by have := HN.out.1; omega)).trans HS3.out)]; exact cellsN_get _ _ (by omega)
      obtain ⟨x, hx⟩ : ∃ x, x = f k := ⟨_, rfl⟩
      rw [← hx] at cS
      have hxo : x = ownS s.l1.length (tat t) k := by rw [hx, HF.out, ht.owns, if_pos hlt]
      have hRG : rgAt s.sh.os k = (g1, g2) := by rw [hg1, hg2]; rfl
      have HXO := Lib.hid (And.intro hxo hRG)
      have HXB : Hid ((0 ≤ x ∧ x ≤ 125000) ∧ RgOk (g1, g2)) := Lib.hid ⟨by rw [hxo]; have := ht.own_bd' hlt; omega, by rw [← hRG]; exact ht.ro hlt⟩
      have hk5' : (k : Int) < 5 := by omega
      clear hx hxo hRG hg1 hg2 ht
      obtain ⟨w4, hw4⟩ : ∃ w4, w4 = wr.alloc (.cells #[.int .i64 g1, .int .i64 g2] 24) := ⟨_, rfl⟩
      have hb4 : Below wr.heap.size wr w4 := by rw [hw4]; exact (Below.refl _ _).alloc (Nat.le_refl _) _
      have e1 : w4.cell? ⟨wr.heap.size, 0, none⟩ = some (.int .i64 g1) := by rw [hw4]; simp [go_sem]
      have e2 : w4.cell? ⟨wr.heap.size, 1, none⟩ = some (.int .i64 g2) := by rw [hw4]; simp [go_sem]
      have H4 := Lib.hid (HR.out.grow hb4 (by have := HN.out; omega))
      have eS := (hb4.cell (cell_size cS)).trans cS
      have hVr := HV.out.below H4.out.below
      have v0 := hVr.g0
      have v1 := hVr.g1
      obtain ⟨vl, hvl, hol⟩ := H4.out.row
      have e3 : w4.cell? ⟨b3, 0, none⟩ = some vl := by rw [cell_of_row _ _ _ _ _ _ hvl]; rfl
      have HVL := Lib.hid (And.intro hvl hol)
      go_wp2_with fail
      rw [← hw4]
      clear hw4 hb4 h1 h2 cS hVr hvl hol
      have hS : Below w4.heap.size w4 w4.drew := (Below.refl _ _).drew
      refine wp_region_last_list (k := 11) rfl (fun w' => Below w4.heap.size w4 w') [9, 10] (by kernel_rfl) ?_
      generalize w4.drew = w0 at hS ⊢
      refine take_listL (i := 0) (v := vl) rfl (by kernel_rfl) (by kernel_rfl) (by kernel_rfl) (by kernel_rfl) (by kernel_rfl) (fun _ _ _ h => h) (by rfl) (by intro w' hw'; have q0 := held_now hw' e3; go_simp) hS ?_
      refine take_listL (i := 1) (v := nodeV gateN) rfl (by kernel_rfl) (by kernel_rfl) (by kernel_rfl) (by kernel_rfl) (by kernel_rfl) (fun _ _ _ h => h) (by rfl) (by intro w' hw'; have q0 := held_now hw' v0; have q1 := held_now hw' v1; go_simp; rfl) hS ?_
      refine take_listL (i := 2) (v := .int .i64 k) rfl (by kernel_rfl) (by kernel_rfl) (by kernel_rfl) (by kernel_rfl) (by kernel_rfl) (fun _ _ _ h => h) (by rfl) (by intro w' hw'; go_simp) hS ?_
      refine take_listL (i := 3) (v := nodeV (ownN' k)) rfl (by kernel_rfl) (by kernel_rfl) (by kernel_rfl) (by kernel_rfl) (by kernel_rfl) (fun _ _ _ h => h) (by rfl) (by intro w' hw'; go_simp; rfl) hS ?_
      refine take_listL (i := 4) (v := .int .i64 k) rfl (by kernel_rfl) (by kernel_rfl) (by kernel_rfl) (by kernel_rfl) (by kernel_rfl) (fun _ _ _ h => h) (by rfl) (by intro w' hw'; go_simp) hS ?_
      refine take_listL (i := 5) (v := .pointer (some ⟨S, k, none⟩)) rfl (by kernel_rfl) (by kernel_rfl) (by kernel_rfl) (by kernel_rfl) (by kernel_rfl) (fun _ _ _ h => h) (by rfl) (by intro w' hw'; go_simp) hS ?_
      refine take_listL (i := 6) (v := .int .i64 x) rfl (by kernel_rfl) (by kernel_rfl) (by kernel_rfl) (by kernel_rfl) (by kernel_rfl) (fun _ _ _ h => h) (by rfl) (by intro w' hw'; have q0 := held_now hw' eS; go_simp) hS ?_
      refine take_listL (i := 7) (v := .agg #[.int .i64 g1, .int .i64 g2]) rfl (by kernel_rfl) (by kernel_rfl) (by kernel_rfl) (by kernel_rfl) (by kernel_rfl) (fun _ _ _ h => h) (by rfl) (by intro w' hw'; have q0 := held_now hw' e1; have q1 := held_now hw' e2; go_simp) hS ?_
      clear e1 e2 e3 eS v0 v1
      (try simp only [Act.put, List.setIfInBounds_toArray, List.set_cons_zero, List.set_cons_succ])
      have HSS := Lib.hid hS
      clear hS
      refine step_listL (i := 8) (by kernel_rfl) rfl (by decide) (by rfl) (fun K hK => ?_)
      go_simp
      refine (both_any gateN (ownN' k) x (g1, g2) w0 HXB.out.1 HXB.out.2).mono ?_
      rintro e w5 ⟨g, rfl, hgs, hgh, hb⟩
      have hS5 : Below w4.heap.size w4 w5 := HSS.out.trans (hb.mono HSS.out.size)
      refine hK _ _ hS5 ?_
      clear hK K hgs hb
      (try simp only [Act.put, List.setIfInBounds_toArray, List.set_cons_zero, List.set_cons_succ])
      refine last_listL (i := 9) (by kernel_rfl) rfl (by decide) (by rfl) (fun K hK => ?_)
      have hol5 := pw_own_below HVL.out.2 hS5
      refine wp_append_own w5 (.tmp 26) (.tmp 34) 106 rfl w3.heap.size 114 il (lkV lk0) 8 64 Tryd.underlying106 hil hl0 hl1 hl2 rfl (by decide) vl _ (lksC (lkO s t k)) rfl hol5 ⟨g, 0, none⟩ 2 2 (lksC (bothL gateN (ownN' k) x (g1, g2))) rfl (by rw [lksC_length]; rfl) (cells_of_row hgh) (lks_one _) (by rw [lkO_length]; unfold maxLen; have := HT.out.n5; have := HT.out.m5; omega) (by rw [lkO_length]; have := HT.out.n5; have := HT.out.m5; omega) (by have := H4.out.size; have := hS5.size; omega) ?_
      intro v6 w6 hown6 hg6 _
      obtain ⟨A6, c6, rfl⟩ := own_opened hown6
      obtain ⟨n6, hn6⟩ : ∃ n6, n6 = (lkO s t k).length + 2 := ⟨_, rfl⟩
      rw [← hn6] at hown6 ⊢
      have HST := Lib.hid (H4.out.more (N := (bothL gateN (ownN' k) x (g1, g2))) HVL.out.1 HVL.out.2 (by have := HN.out; omega) hS5 (by have := HN.out; omega) (by have h := hown6; rw [hn6] at h; exact h) hg6)
      rw [← hn6] at HST
      clear hn6
      have hne : some b3 ≠ vl.ownBlock := own_ne HVL.out.2 (by have := HN.out; omega)
      have h6 : w6.heap[b3]? = some (.cells #[vl] 106 (0, 0)) := by
        rw [hg6.block b3 (by have := heap_lt HVL.out.1; have := hS5.size; omega) hne, hS5.block b3 (heap_lt HVL.out.1)]
        exact HVL.out.1
      have hc6 : w6.cell? ⟨b3, 0, none⟩ = some vl := by rw [cell_of_row _ _ _ _ _ _ h6]; rfl
      have hf6 : w6.frozen? ⟨b3, 0, none⟩ = false := frozen_of_row w6 _ 0 _ _ h6
      refine hK _ _ ?_
      clear hK K hol5 hgh hown6 hg6 hne h6
      (try simp only [Act.put, List.setIfInBounds_toArray, List.set_cons_zero, List.set_cons_succ])
      refine last_listL (i := 10) (by kernel_rfl) rfl (by decide) (by rfl) (fun K hK => ?_)
      go_simp
      refine hK _ _ ?_
      clear hK K
      (try simp only [Act.put, List.setIfInBounds_toArray, List.set_cons_zero, List.set_cons_succ])
      refine wpAnyLast_done (by kernel_rfl) ?_ _
      obtain ⟨w7, hw7⟩ : ∃ w7, w7 = w6.setCell ⟨b3, 0, none⟩ (.slice A6 n6 c6) := ⟨_, rfl⟩
      rw [← hw7] at HST ⊢
      clear hw7 hc6 hf6
      go_wp2
      rw [← hae]
      clear hae
      go_roundw
      case rel => exact ⟨k + 1, by omega, by go_num, Lib.hid (by rw [lkO_succ, ← HXO.out.1, HXO.out.2]; exact HST.out)⟩
      case measure => simp [intOf]; omega
    · have hnl : ¬ ((k : Int) < (s.l0.length : Int)) := by omega
      have hke : k = s.l0.length := by omega
      have HL1 : Hid (LkSt w w3 b3 w3.heap.size (lkP s t 0) wr) := Lib.hid (by have h := HR.out; rw [hke] at h; unfold lkP; rw [List.range_zero, List.flatMap_nil, List.append_nil]; exact h)
      obtain ⟨wq, rfl⟩ : ∃ wq, wq = wr := ⟨_, rfl⟩
      have q1 := HKr.out.b1
      clear hke ht hk5 hk HR HL0
      go_wp2_with fail
      clear q1
      -- the pockets
      go_loopw [7, 8, 43] (fun _ _ i wr => ∃ k : Nat, k ≤ s.l1.length ∧ i = .int .i64 k ∧ Hid (LkSt w w3 b3 w3.heap.size (lkP s t k) wr)) (fun _ _ i _ => 60 - (intOf i).toNat)
      case atStart => exact ⟨0, Nat.zero_le _, rfl, HL1⟩
      case round =>
        obtain ⟨k, hk, rfl, HR⟩ := hrel
        have ht := HT.out
        have hk5 := ht.m5
        have HKr := Lib.hid (HB.out.below HR.out.below)
        by_cases hlt : k < s.l1.length
        · have hlt' : (k : Int) < (s.l1.length : Int) := by omega
          have p0 : (0 : Int) ≤ (k : Int) := by omega
          obtain ⟨ad, hae, h1, h2⟩ := at_rg HKr.out.rd.r1 hlt
          obtain ⟨g1, hg1⟩ : ∃ g, g = (rgAt (s.l1.map pr) k).1 := ⟨_, rfl⟩
          obtain ⟨g2, hg2⟩ : ∃ g, g = (rgAt (s.l1.map pr) k).2 := ⟨_, rfl⟩
          rw [← hg1] at h1
          rw [← hg2] at h2
          obtain ⟨x, hx⟩ : ∃ x, x = pckS s.l0.length s.l1.length (tat t) k := ⟨_, rfl⟩
          have hRG : rgAt s.sh.ps k = (g1, g2) := by rw [hg1, hg2]; rfl
          have HXO := Lib.hid (And.intro hx hRG)
          have HXB : Hid ((0 ≤ x ∧ x ≤ 125000) ∧ RgOk (g1, g2)) := Lib.hid ⟨by rw [hx]; have := ht.pck_bd hlt; omega, by rw [← hRG]; exact ht.rp hlt⟩
          clear hx hRG hg1 hg2 ht
          obtain ⟨w4, hw4⟩ : ∃ w4, w4 = wr.alloc (.cells #[.int .i64 g1, .int .i64 g2] 24) := ⟨_, rfl⟩
          have hb4 : Below wr.heap.size wr w4 := by rw [hw4]; exact (Below.refl _ _).alloc (Nat.le_refl _) _
          have e1 : w4.cell? ⟨wr.heap.size, 0, none⟩ = some (.int .i64 g1) := by rw [hw4]; simp [go_sem]
          have e2 : w4.cell? ⟨wr.heap.size, 1, none⟩ = some (.int .i64 g2) := by rw [hw4]; simp [go_sem]
          have H4 := Lib.hid (HR.out.grow hb4 (by have := HN.out; omega))
          have HK4 := Lib.hid (HB.out.below H4.out.below)
          have hVr := HV.out.below H4.out.below
          have v0 := hVr.b0
          have v1 := hVr.b1
          obtain ⟨vl, hvl, hol⟩ := H4.out.row
          have e3 : w4.cell? ⟨b3, 0, none⟩ = some vl := by rw [cell_of_row _ _ _ _ _ _ hvl]; rfl
          have HVL := Lib.hid (And.intro hvl hol)
          go_wp2_with fail
          rw [← hw4]
          clear hw4 hb4 h1 h2 hVr hvl hol
          have hS : Below w4.heap.size w4 w4.drew := (Below.refl _ _).drew
          refine wp_region_last_list (k := 11) rfl (fun w' => Below w4.heap.size w4 w') [9, 10] (by kernel_rfl) ?_
          generalize w4.drew = w0 at hS ⊢
          refine take_listL (i := 0) (v := vl) rfl (by kernel_rfl) (by kernel_rfl) (by kernel_rfl) (by kernel_rfl) (by kernel_rfl) (fun _ _ _ h => h) (by rfl) (by intro w' hw'; have q0 := held_now hw' e3; go_simp) hS ?_
          refine take_listL (i := 1) (v := .int .i64 k) rfl (by kernel_rfl) (by kernel_rfl) (by kernel_rfl) (by kernel_rfl) (by kernel_rfl) (fun _ _ _ h => h) (by rfl) (by intro w' hw'; go_simp) hS ?_
          refine take_listL (i := 2) (v := nodeV (pckN k)) rfl (by kernel_rfl) (by kernel_rfl) (by kernel_rfl) (by kernel_rfl) (by kernel_rfl) (fun _ _ _ h => h) (by rfl) (by intro w' hw'; go_simp; rfl) hS ?_
          refine take_listL (i := 3) (v := nodeV boomN) rfl (by kernel_rfl) (by kernel_rfl) (by kernel_rfl) (by kernel_rfl) (by kernel_rfl) (fun _ _ _ h => h) (by rfl) (by intro w' hw'; have q0 := held_now hw' v0; have q1 := held_now hw' v1; go_simp; rfl) hS ?_
          refine take_listL (i := 4) (v := .pointer (some ⟨B, 0, none⟩)) rfl (by kernel_rfl) (by kernel_rfl) (by kernel_rfl) (by kernel_rfl) (by kernel_rfl) (fun _ _ _ h => h) (by rfl) (by intro w' hw'; go_simp) hS ?_
          refine take_listL (i := 5) (v := .int .i64 k) rfl (by kernel_rfl) (by kernel_rfl) (by kernel_rfl) (by kernel_rfl) (by kernel_rfl) (fun _ _ _ h => h) (by rfl) (by intro w' hw'; go_simp) hS ?_
          refine take_listL (i := 7) (v := .agg #[.int .i64 g1, .int .i64 g2]) rfl (by kernel_rfl) (by kernel_rfl) (by kernel_rfl) (by kernel_rfl) (by kernel_rfl) (fun _ _ _ h => h) (by rfl) (by intro w' hw'; have q0 := held_now hw' e1; have q1 := held_now hw' e2; go_simp) hS ?_
          clear e1 e2 e3 v0 v1
          (try simp only [Act.put, List.setIfInBounds_toArray, List.set_cons_zero, List.set_cons_succ])
          refine step_listL (i := 6) (by kernel_rfl) rfl (by decide) (by rfl) (fun K hK => ?_)
          go_simp
          refine (pocket_any B Tb s fv t s.l0.length k w0 (HK4.out.below hS) hlt HT.out.m5 HT.out.n5 HT.out.len HT.out.bd).mono ?_
          rintro e w0' ⟨rfl, rfl⟩
          rw [← HXO.out.1]
          refine hK _ _ hS ?_
          clear hK K
          (try simp only [Act.put, List.setIfInBounds_toArray, List.set_cons_zero, List.set_cons_succ])
          have HSS := Lib.hid hS
          clear hS
          refine step_listL (i := 8) (by kernel_rfl) rfl (by decide) (by rfl) (fun K hK => ?_)
          go_simp
          refine (both_any (pckN k) boomN x (g1, g2) _ HXB.out.1 HXB.out.2).mono ?_
          rintro e w5 ⟨g, rfl, hgs, hgh, hb⟩
          have hS5 : Below w4.heap.size w4 w5 := HSS.out.trans (hb.mono HSS.out.size)
          refine hK _ _ hS5 ?_
          clear hK K hgs hb
          (try simp only [Act.put, List.setIfInBounds_toArray, List.set_cons_zero, List.set_cons_succ])
          refine last_listL (i := 9) (by kernel_rfl) rfl (by decide) (by rfl) (fun K hK => ?_)
          have hol5 := pw_own_below HVL.out.2 hS5
          refine wp_append_own w5 (.tmp 48) (.tmp 56) 106 rfl w3.heap.size 114 il (lkV lk0) 8 64 Tryd.underlying106 hil hl0 hl1 hl2 rfl (by decide) vl _ (lksC (lkP s t k)) rfl hol5 ⟨g, 0, none⟩ 2 2 (lksC (bothL (pckN k) boomN x (g1, g2))) rfl (by rw [lksC_length]; rfl) (cells_of_row hgh) (lks_one _) (by rw [lkP_length]; unfold maxLen; have := HT.out.n5; have := HT.out.m5; omega) (by rw [lkP_length]; have := HT.out.n5; have := HT.out.m5; omega) (by have := H4.out.size; have := hS5.size; omega) ?_
          intro v6 w6 hown6 hg6 _
          obtain ⟨A6, c6, rfl⟩ := own_opened hown6
          obtain ⟨n6, hn6⟩ : ∃ n6, n6 = (lkP s t k).length + 2 := ⟨_, rfl⟩
          rw [← hn6] at hown6 ⊢
          have HST := Lib.hid (H4.out.more (N := (bothL (pckN k) boomN x (g1, g2))) HVL.out.1 HVL.out.2 (by have := HN.out; omega) hS5 (by have := HN.out; omega) (by have h := hown6; rw [hn6] at h; exact h) hg6)
          rw [← hn6] at HST
          clear hn6
          have hne : some b3 ≠ vl.ownBlock := own_ne HVL.out.2 (by have := HN.out; omega)
          have h6 : w6.heap[b3]? = some (.cells #[vl] 106 (0, 0)) := by
            rw [hg6.block b3 (by have := heap_lt HVL.out.1; have := hS5.size; omega) hne, hS5.block b3 (heap_lt HVL.out.1)]
            exact HVL.out.1
          have hc6 : w6.cell? ⟨b3, 0, none⟩ = some vl := by rw [cell_of_row _ _ _ _ _ _ h6]; rfl
          have hf6 : w6.frozen? ⟨b3, 0, none⟩ = false := frozen_of_row w6 _ 0 _ _ h6
          refine hK _ _ ?_
          clear hK K hol5 hgh hown6 hg6 hne h6
          (try simp only [Act.put, List.setIfInBounds_toArray, List.set_cons_zero, List.set_cons_succ])
          refine last_listL (i := 10) (by kernel_rfl) rfl (by decide) (by rfl) (fun K hK => ?_)
          go_simp
          refine hK _ _ ?_
          clear hK K
          (try simp only [Act.put, List.setIfInBounds_toArray, List.set_cons_zero, List.set_cons_succ])
          refine wpAnyLast_done (by kernel_rfl) ?_ _
          obtain ⟨w7, hw7⟩ : ∃ w7, w7 = w6.setCell ⟨b3, 0, none⟩ (.slice A6 n6 c6) := ⟨_, rfl⟩
          rw [← hw7] at HST ⊢
          clear hw7 hc6 hf6
          go_wp2
          rw [← hae]
          clear hae
          go_roundw
          case rel => exact ⟨k + 1, by omega, by go_num, Lib.hid (by rw [lkP_succ, ← HXO.out.1, HXO.out.2]; exact HST.out)⟩
          case measure => simp [intOf]; omega
        · have hnl : ¬ ((k : Int) < (s.l1.length : Int)) := by omega
          have hke : k = s.l1.length := by omega
          have HL2 : Hid (LkSt w w3 b3 w3.heap.size (lkP s t s.l1.length) wr) := Lib.hid (by have h := HR.out; rw [hke] at h; exact h)
          obtain ⟨w4, rfl⟩ : ∃ wq, wq = wr := ⟨_, rfl⟩
          have hVr := HV.out.below HL2.out.below
          have v0 := hVr.g0
          have v1 := hVr.g1
          have v2 := hVr.b0
          have v3 := hVr.b1
          have e1 := HKr.out.b2
          have e2 := HKr.out.b3
          obtain ⟨vl, hvl, hol⟩ := HL2.out.row
          have e3 : w4.cell? ⟨b3, 0, none⟩ = some vl := by rw [cell_of_row _ _ _ _ _ _ hvl]; rfl
          have HVL := Lib.hid (And.intro hvl hol)
          obtain ⟨x, hx⟩ : ∃ x, x = allS s.l0.length s.l1.length (tat t) := ⟨_, rfl⟩
          have HX := Lib.hid hx
          have HXB : Hid ((0 ≤ x ∧ x ≤ 125000) ∧ RgOk (s.a2, s.a3)) := Lib.hid ⟨by rw [hx]; exact ht.all_bd, ht.ra⟩
          clear hke ht hk5 hk HR hVr hvl hol hx HL1
          go_upto_region 13 with fail
          have hS : Below w4.heap.size w4 w4.drew := (Below.refl _ _).drew
          refine wp_region_last_list (k := 13) rfl (fun w' => Below w4.heap.size w4 w') [11, 12] (by kernel_rfl) ?_
          generalize w4.drew = w0 at hS ⊢
          refine take_listL (i := 0) (v := vl) rfl (by kernel_rfl) (by kernel_rfl) (by kernel_rfl) (by kernel_rfl) (by kernel_rfl) (fun _ _ _ h => h) (by rfl) (by intro w' hw'; have q0 := held_now hw' e3; go_simp) hS ?_
          refine take_listL (i := 1) (v := nodeV boomN) rfl (by kernel_rfl) (by kernel_rfl) (by kernel_rfl) (by kernel_rfl) (by kernel_rfl) (fun _ _ _ h => h) (by rfl) (by intro w' hw'; have q0 := held_now hw' v2; have q1 := held_now hw' v3; go_simp; rfl) hS ?_
          refine take_listL (i := 2) (v := nodeV gateN) rfl (by kernel_rfl) (by kernel_rfl) (by kernel_rfl) (by kernel_rfl) (by kernel_rfl) (fun _ _ _ h => h) (by rfl) (by intro w' hw'; have q0 := held_now hw' v0; have q1 := held_now hw' v1; go_simp; rfl) hS ?_
          refine take_listL (i := 3) (v := .pointer (some ⟨B, 0, none⟩)) rfl (by kernel_rfl) (by kernel_rfl) (by kernel_rfl) (by kernel_rfl) (by kernel_rfl) (fun _ _ _ h => h) (by rfl) (by intro w' hw'; go_simp) hS ?_
          refine take_listL (i := 5) (v := .pointer (some ⟨B, 0, none⟩)) rfl (by kernel_rfl) (by kernel_rfl) (by kernel_rfl) (by kernel_rfl) (by kernel_rfl) (fun _ _ _ h => h) (by rfl) (by intro w' hw'; go_simp) hS ?_
          refine take_listL (i := 6) (v := .pointer (some ⟨B, 0, none⟩)) rfl (by kernel_rfl) (by kernel_rfl) (by kernel_rfl) (by kernel_rfl) (by kernel_rfl) (fun _ _ _ h => h) (by rfl) (by intro w' hw'; have q0 := held_now hw' e1; go_simp) hS ?_
          refine take_listL (i := 7) (v := .pointer (some ⟨B, 0, none⟩)) rfl (by kernel_rfl) (by kernel_rfl) (by kernel_rfl) (by kernel_rfl) (by kernel_rfl) (fun _ _ _ h => h) (by rfl) (by intro w' hw'; go_simp) hS ?_
          refine take_listL (i := 8) (v := .pointer (some ⟨B, 2, none⟩)) rfl (by kernel_rfl) (by kernel_rfl) (by kernel_rfl) (by kernel_rfl) (by kernel_rfl) (fun _ _ _ h => h) (by rfl) (by intro w' hw'; go_simp) hS ?_
          refine take_listL (i := 9) (v := .agg #[.int .i64 s.a2, .int .i64 s.a3]) rfl (by kernel_rfl) (by kernel_rfl) (by kernel_rfl) (by kernel_rfl) (by kernel_rfl) (fun _ _ _ h => h) (by rfl) (by intro w' hw'; have q0 := held_now hw' e1; have q1 := held_now hw' e2; go_simp) hS ?_
          clear e1 e2 e3 v0 v1 v2 v3
          (try simp only [Act.put, List.setIfInBounds_toArray, List.set_cons_zero, List.set_cons_succ])
          refine step_listL (i := 4) (by kernel_rfl) rfl (by decide) (by rfl) (fun K hK => ?_)
          go_simp
          refine (all_any B Tb s fv t w0 (HKr.out.below hS) HT.out).mono ?_
          rintro e w0' ⟨rfl, hb0⟩
          rw [← HX.out]
          have hS : Below w4.heap.size w4 w0' := hS.trans (hb0.mono hS.size)
          refine hK _ _ hS ?_
          clear hK K
          (try simp only [Act.put, List.setIfInBounds_toArray, List.set_cons_zero, List.set_cons_succ])
          have HSS := Lib.hid hS
          clear hS
          refine step_listL (i := 10) (by kernel_rfl) rfl (by decide) (by rfl) (fun K hK => ?_)
          go_simp
          refine (both_any boomN gateN x (s.a2, s.a3) _ HXB.out.1 HXB.out.2).mono ?_
          rintro e w5 ⟨g, rfl, hgs, hgh, hb⟩
          have hS5 : Below w4.heap.size w4 w5 := HSS.out.trans (hb.mono HSS.out.size)
          refine hK _ _ hS5 ?_
          clear hK K hgs hb
          (try simp only [Act.put, List.setIfInBounds_toArray, List.set_cons_zero, List.set_cons_succ])
          refine last_listL (i := 11) (by kernel_rfl) rfl (by decide) (by rfl) (fun K hK => ?_)
          have hol5 := pw_own_below HVL.out.2 hS5
          refine wp_append_own w5 (.tmp 59) (.tmp 69) 106 rfl w3.heap.size 114 il (lkV lk0) 8 64 Tryd.underlying106 hil hl0 hl1 hl2 rfl (by decide) vl _ (lksC (lkP s t s.l1.length)) rfl hol5 ⟨g, 0, none⟩ 2 2 (lksC (bothL boomN gateN x (s.a2, s.a3))) rfl (by rw [lksC_length]; rfl) (cells_of_row hgh) (lks_one _) (by rw [lkP_length]; unfold maxLen; have := HT.out.n5; have := HT.out.m5; omega) (by rw [lkP_length]; have := HT.out.n5; have := HT.out.m5; omega) (by have := HL2.out.size; have := hS5.size; omega) ?_
          intro v6 w6 hown6 hg6 _
          obtain ⟨A6, c6, rfl⟩ := own_opened hown6
          obtain ⟨n6, hn6⟩ : ∃ n6, n6 = (lkP s t s.l1.length).length + 2 := ⟨_, rfl⟩
          rw [← hn6] at hown6 ⊢
          have HST := Lib.hid (HL2.out.more (N := (bothL boomN gateN x (s.a2, s.a3))) HVL.out.1 HVL.out.2 (by have := HN.out; omega) hS5 (by have := HN.out; omega) (by have h := hown6; rw [hn6] at h; exact h) hg6)
          rw [← hn6] at HST
          clear hn6
          have hne : some b3 ≠ vl.ownBlock := own_ne HVL.out.2 (by have := HN.out; omega)
          have h6 : w6.heap[b3]? = some (.cells #[vl] 106 (0, 0)) := by
            rw [hg6.block b3 (by have := heap_lt HVL.out.1; have := hS5.size; omega) hne, hS5.block b3 (heap_lt HVL.out.1)]
            exact HVL.out.1
          have hc6 : w6.cell? ⟨b3, 0, none⟩ = some vl := by rw [cell_of_row _ _ _ _ _ _ h6]; rfl
          have hf6 : w6.frozen? ⟨b3, 0, none⟩ = false := frozen_of_row w6 _ 0 _ _ h6
          refine hK _ _ ?_
          clear hK K hol5 hgh hown6 hg6 hne h6
          (try simp only [Act.put, List.setIfInBounds_toArray, List.set_cons_zero, List.set_cons_succ])
          refine last_listL (i := 12) (by kernel_rfl) rfl (by decide) (by rfl) (fun K hK => ?_)
          go_simp
          refine hK _ _ ?_
          clear hK K
          (try simp only [Act.put, List.setIfInBounds_toArray, List.set_cons_zero, List.set_cons_succ])
          refine wpAnyLast_done (by kernel_rfl) ?_ _
          obtain ⟨w7, hw7⟩ : ∃ w7, w7 = w6.setCell ⟨b3, 0, none⟩ (.slice A6 n6 c6) := ⟨_, rfl⟩
          rw [← hw7] at HST ⊢
          clear hw7 hc6 hf6
          have HL3 : Hid (LkSt w w3 b3 w3.heap.size (lkA s t 0) w7) := Lib.hid (by unfold lkA lkW; rw [List.range_zero, List.flatMap_nil, List.append_nil, ← HX.out]; exact HST.out)
          have HK7 := Lib.hid (HB.out.below HL3.out.below)
          have q4 := HK7.out.b4
          clear HST HL2 HSS hS5 HKr HVL hS hb0
          go_wp2_with fail
          clear q4
          -- the cells
          go_loopw [9, 10, 11, 12, 77] (fun _ _ _ _ i wr => ∃ k : Nat, k ≤ t.length ∧ i = .int .i64 k ∧ Hid (LkSt w w3 b3 w3.heap.size (lkA s t k) wr)) (fun _ _ _ _ i _ => 60 - (intOf i).toNat)
          case atStart => exact ⟨0, Nat.zero_le _, rfl, HL3⟩
          case round =>
            obtain ⟨k, hk, rfl, HR⟩ := hrel
            have ht := HT.out
            have hl4 := ht.l4
            have h25 := ht.l25
            have HKr := Lib.hid (HB.out.below HR.out.below)
            by_cases hlt : k < t.length
            · have hlt' : (k : Int) < (s.l4.length : Int) := by omega
              have hltt : (k : Int) < (t.length : Int) := by omega
              have hk25 : (k : Int) ≤ 25 := by omega
              have p0 : (0 : Int) ≤ (k : Int) := by omega
              obtain ⟨ad, hae, h1, h2⟩ := at_rg HKr.out.rd.r4 (show k < s.l4.length by omega)
              obtain ⟨g1, hg1⟩ : ∃ g, g = (rgAt (s.l4.map pr) k).1 := ⟨_, rfl⟩
              obtain ⟨g2, hg2⟩ : ∃ g, g = (rgAt (s.l4.map pr) k).2 := ⟨_, rfl⟩
              rw [← hg1] at h1
              rw [← hg2] at h2
              have hRG : rgAt s.sh.cs k = (g1, g2) := by rw [hg1, hg2]; rfl
              obtain ⟨x, hx⟩ : ∃ x, x = tat t k := ⟨_, rfl⟩
              obtain ⟨q, hq⟩ : ∃ q, q = k / s.l1.length := ⟨_, rfl⟩
              obtain ⟨r, hr⟩ : ∃ r, r = k % s.l1.length := ⟨_, rfl⟩
              have HXO := Lib.hid (And.intro hx (And.intro hRG (And.intro hq hr)))
              have hxb := ht.bd k hlt
              rw [← hx] at hxb
              obtain ⟨x0, x1⟩ := hxb
              have hgb := ht.rc hlt
              rw [hRG] at hgb
              obtain ⟨gb0, gb1, gb2⟩ := hgb
              simp only at gb0 gb1 gb2
              have hdv : Int.tdiv (k : Int) (s.l1.length : Int) = (q : Int) := by rw [hq]; exact (Int.ofNat_tdiv _ _).symm
              have hmd : Int.tmod (k : Int) (s.l1.length : Int) = (r : Int) := by rw [hr]; exact (Int.ofNat_tmod _ _).symm
              have hm0 : ¬ ((s.l1.length : Int) = 0) := by have := ht.m1; omega
              have hq5 : (q : Int) < 5 := by have := ht.quo k hlt; rw [hq]; omega
              have hr5 : (r : Int) < 5 := by have := ht.m5; have := Nat.mod_lt k (show 0 < s.l1.length by have := ht.m1; omega); rw [hr]; omega
              have hm1' : ¬ (s.l1 = []) := fun h => by have := ht.m1; rw [h] at this; simp at this
              have hqw : IntKind.i64.wrap (q : Int) = (q : Int) := IntWalk.i64_in _ (by omega)
              have hrw : IntKind.i64.wrap (r : Int) = (r : Int) := IntWalk.i64_in _ (by omega)
              have q0 : (0 : Int) ≤ (q : Int) := by omega
              have r0 : (0 : Int) ≤ (r : Int) := by omega
              clear hx hRG hg1 hg2 ht hq hr hl4 h25
              obtain ⟨w4, hw4⟩ : ∃ w4, w4 = wr.alloc (.cells #[.int .i64 g1, .int .i64 g2] 24) := ⟨_, rfl⟩
              have hb4 : Below wr.heap.size wr w4 := by rw [hw4]; exact (Below.refl _ _).alloc (Nat.le_refl _) _
              have e1 : w4.cell? ⟨wr.heap.size, 0, none⟩ = some (.int .i64 g1) := by rw [hw4]; simp [go_sem]
              have e2 : w4.cell? ⟨wr.heap.size, 1, none⟩ = some (.int .i64 g2) := by rw [hw4]; simp [go_sem]
              have H4 := Lib.hid (HR.out.grow hb4 (by have := HN.out; omega))
              have HK4 := Lib.hid (HB.out.below H4.out.below)
              go_upto_region 17 with fail
              rw [← hw4]
              (try rw [← hae])
              clear hae
              obtain ⟨b10, h10⟩ : ∃ b, b = wr.heap.size := ⟨_, rfl⟩
              rw [← h10] at e1 e2 ⊢
              clear hw4 hb4 h1 h2 h10
              have HE := Lib.hid (And.intro e1 e2)
              have e5 := HK4.out.b1
              go_cut [11, 12] (fun v11 v12 wc => ∃ g11 g12 : Nat, v11 = .pointer (some ⟨g11, 0, none⟩) ∧ v12 = .pointer (some ⟨g12, 0, none⟩) ∧ Hid (Below w4.heap.size w4 wc) ∧ Hid (wc.cell? ⟨g11, 0, none⟩ = some (.int .i64 1) ∧ wc.cell? ⟨g11, 1, none⟩ = some (.int .i64 q) ∧ wc.cell? ⟨g12, 0, none⟩ = some (.int .i64 2) ∧ wc.cell? ⟨g12, 1, none⟩ = some (.int .i64 r)))
              case first =>
                have hS : Below w4.heap.size w4 w4.drew := (Below.refl _ _).drew
                refine wp_region_held_list (k := 22) rfl (fun w' => Below w4.heap.size w4 w') (by kernel_rfl) ?_
                generalize w4.drew = w0 at hS ⊢
                refine tk 0 (.int .i64 k) rfl (fun w' hw' => by go_simp) hS ?_
                refine tk 1 (.pointer (some ⟨B, 0, none⟩)) rfl (fun w' hw' => by go_simp) hS ?_
                refine tk 2 (.pointer (some ⟨B, 0, none⟩)) rfl (fun w' hw' => by have q0' := held_now hw' e5; have qb := held_now hw' HK4.out.b0; go_simp) hS ?_
                refine tk 3 (.pointer (some ⟨B, 0, none⟩)) rfl (fun w' hw' => by go_simp) hS ?_
                refine tk 4 (.pointer (some ⟨B, 1, none⟩)) rfl (fun w' hw' => by go_simp) hS ?_
                refine tk 5 (.slice s.A1 s.l1.length s.c1) rfl (fun w' hw' => by have q0' := held_now hw' e5; go_simp) hS ?_
                refine tk 6 (.int .i64 (s.l1.length : Int)) rfl (fun w' hw' => by go_simp) hS ?_
                refine tk 7 (.int .i64 (q : Int)) rfl (fun w' hw' => by go_simp) hS ?_
                refine tk 8 (nodeV (ownN' q)) rfl (fun w' hw' => by go_simp; rfl) hS ?_
                refine tk 9 (.int .i64 k) rfl (fun w' hw' => by go_simp) hS ?_
                refine tk 10 (.pointer (some ⟨B, 0, none⟩)) rfl (fun w' hw' => by go_simp) hS ?_
                refine tk 11 (.pointer (some ⟨B, 0, none⟩)) rfl (fun w' hw' => by have q0' := held_now hw' e5; have qb := held_now hw' HK4.out.b0; go_simp) hS ?_
                refine tk 12 (.pointer (some ⟨B, 0, none⟩)) rfl (fun w' hw' => by go_simp) hS ?_
                refine tk 13 (.pointer (some ⟨B, 1, none⟩)) rfl (fun w' hw' => by go_simp) hS ?_
                refine tk 14 (.slice s.A1 s.l1.length s.c1) rfl (fun w' hw' => by have q0' := held_now hw' e5; go_simp) hS ?_
                refine tk 15 (.int .i64 (s.l1.length : Int)) rfl (fun w' hw' => by go_simp) hS ?_
                refine tk 16 (.int .i64 (r : Int)) rfl (fun w' hw' => by go_simp) hS ?_
                refine tk 17 (nodeV (pckN r)) rfl (fun w' hw' => by go_simp; rfl) hS ?_
                clear e1 e2 e5
                (try simp only [Act.put, List.setIfInBounds_toArray, List.set_cons_zero, List.set_cons_succ])
                refine step2_list (i := 18) (j := 19) (by kernel_rfl) rfl rfl (by rfl) (by rfl) (fun K hK => ?_) (fun K hK => ?_)
                · go_simp
                  refine hK _ _ (hS.alloc hS.size (.cells #[.int .i64 0, .int .i64 0] 92)) ?_
                  clear hK K
                  (try simp only [Act.put, List.setIfInBounds_toArray, List.set_cons_zero, List.set_cons_succ])
                  refine step_list (i := 19) (by kernel_rfl) rfl (by rfl) (fun K hK => ?_)
                  go_simp
                  refine hK _ _ ((hS.alloc hS.size (.cells #[.int .i64 0, .int .i64 0] 92)).alloc (by have := hS.size; simp; omega) (.cells #[.int .i64 0, .int .i64 0] 92)) ?_
                  clear hK K
                  (try simp only [Act.put, List.setIfInBounds_toArray, List.set_cons_zero, List.set_cons_succ])
                  refine step_list (i := 20) (by kernel_rfl) rfl (by rfl) (fun K hK => ?_)
                  simp only [nodeV, ownN', pckN]
                  go_simp
                  refine hK _ _ ((hS.alloc hS.size (.cells #[.int .i64 1, .int .i64 (q : Int)] 92)).alloc (by have := hS.size; simp; omega) (.cells #[.int .i64 0, .int .i64 0] 92)) ?_
                  clear hK K
                  (try simp only [Act.put, List.setIfInBounds_toArray, List.set_cons_zero, List.set_cons_succ])
                  refine step_list (i := 21) (by kernel_rfl) rfl (by rfl) (fun K hK => ?_)
                  go_simp
                  refine hK _ _ ((hS.alloc hS.size (.cells #[.int .i64 1, .int .i64 (q : Int)] 92)).alloc (by have := hS.size; simp; omega) (.cells #[.int .i64 2, .int .i64 (r : Int)] 92)) ?_
                  clear hK K
                  (try simp only [Act.put, List.setIfInBounds_toArray, List.set_cons_zero, List.set_cons_succ])
                  refine wpAnyH_done (by kernel_rfl) ?_ _
                  go_wp2_with fail
                  go_meet
                  case rel => exact ⟨w0.heap.size, w0.heap.size + 1, rfl, rfl, Lib.hid ((hS.alloc hS.size (.cells #[.int .i64 1, .int .i64 (q : Int)] 92)).alloc (by have := hS.size; simp; omega) (.cells #[.int .i64 2, .int .i64 (r : Int)] 92)), Lib.hid ⟨by simp [go_sem], by simp [go_sem], by simp [go_sem], by simp [go_sem]⟩⟩
                · go_simp
                  refine hK _ _ (hS.alloc hS.size (.cells #[.int .i64 0, .int .i64 0] 92)) ?_
                  clear hK K
                  (try simp only [Act.put, List.setIfInBounds_toArray, List.set_cons_zero, List.set_cons_succ])
                  refine step_list (i := 18) (by kernel_rfl) rfl (by rfl) (fun K hK => ?_)
                  go_simp
                  refine hK _ _ ((hS.alloc hS.size (.cells #[.int .i64 0, .int .i64 0] 92)).alloc (by have := hS.size; simp; omega) (.cells #[.int .i64 0, .int .i64 0] 92)) ?_
                  clear hK K
                  (try simp only [Act.put, List.setIfInBounds_toArray, List.set_cons_zero, List.set_cons_succ])
                  refine step_list (i := 20) (by kernel_rfl) rfl (by rfl) (fun K hK => ?_)
                  simp only [nodeV, ownN', pckN]
                  go_simp
                  refine hK _ _ ((hS.alloc hS.size (.cells #[.int .i64 0, .int .i64 0] 92)).alloc (by have := hS.size; simp; omega) (.cells #[.int .i64 1, .int .i64 (q : Int)] 92)) ?_
                  clear hK K
                  (try simp only [Act.put, List.setIfInBounds_toArray, List.set_cons_zero, List.set_cons_succ])
                  refine step_list (i := 21) (by kernel_rfl) rfl (by rfl) (fun K hK => ?_)
                  go_simp
                  refine hK _ _ ((hS.alloc hS.size (.cells #[.int .i64 2, .int .i64 (r : Int)] 92)).alloc (by have := hS.size; simp; omega) (.cells #[.int .i64 1, .int .i64 (q : Int)] 92)) ?_
                  clear hK K
                  (try simp only [Act.put, List.setIfInBounds_toArray, List.set_cons_zero, List.set_cons_succ])
                  refine wpAnyH_done (by kernel_rfl) ?_ _
                  go_wp2_with fail
                  go_meet
                  case rel => exact ⟨w0.heap.size + 1, w0.heap.size, rfl, rfl, Lib.hid ((hS.alloc hS.size (.cells #[.int .i64 2, .int .i64 (r : Int)] 92)).alloc (by have := hS.size; simp; omega) (.cells #[.int .i64 1, .int .i64 (q : Int)] 92)), Lib.hid ⟨by simp [go_sem], by simp [go_sem], by simp [go_sem], by simp [go_sem]⟩⟩
              case rest =>
                obtain ⟨g11, g12, rfl, rfl, HBc, HNd⟩ := hcut
                have H5 := Lib.hid (H4.out.grow HBc.out (by have := HN.out; omega))
                have HK5 := Lib.hid (HB.out.below H5.out.below)
                have e1 := (HBc.out.cell (cell_size HE.out.1)).trans HE.out.1
                have e2 := (HBc.out.cell (cell_size HE.out.2)).trans HE.out.2
                obtain ⟨n1, n2, n3, n4⟩ := HNd.out
                have e5 := HK5.out.b5
                have et := HK5.out.tb hlt
                rw [← HXO.out.1] at et
                obtain ⟨vl, hvl, hol⟩ := H5.out.row
                have e3 : wc.cell? ⟨b3, 0, none⟩ = some vl := by rw [cell_of_row _ _ _ _ _ _ hvl]; rfl
                have HVL := Lib.hid (And.intro hvl hol)
                have wr1 : IntKind.i64.wrap (g2 - x) = g2 - x := IntWalk.i64_in _ (by omega)
                have wr2 : IntKind.i64.wrap (x - g1) = x - g1 := IntWalk.i64_in _ (by omega)
                clear hvl hol H4 HR HE HNd HBc
                go_upto_region 18 with fail
                have hS : Below wc.heap.size wc wc.drew := (Below.refl _ _).drew
                refine wp_region_last_list (k := 32) rfl (fun w' => Below wc.heap.size wc w') [30, 31] (by kernel_rfl) ?_
                generalize wc.drew = w0 at hS ⊢
                refine take_listL (i := 0) (v := vl) rfl (by kernel_rfl) (by kernel_rfl) (by kernel_rfl) (by kernel_rfl) (by kernel_rfl) (fun _ _ _ h => h) (by rfl) (by intro w' hw'; have z := held_now hw' e3; go_simp) hS ?_
                refine take_listL (i := 1) (v := nodeV (ownN' q)) rfl (by kernel_rfl) (by kernel_rfl) (by kernel_rfl) (by kernel_rfl) (by kernel_rfl) (fun _ _ _ h => h) (by rfl) (by intro w' hw'; have z1 := held_now hw' n1; have z2 := held_now hw' n2; go_simp; rfl) hS ?_
                refine take_listL (i := 2) (v := nodeV (pckN r)) rfl (by kernel_rfl) (by kernel_rfl) (by kernel_rfl) (by kernel_rfl) (by kernel_rfl) (fun _ _ _ h => h) (by rfl) (by intro w' hw'; have z1 := held_now hw' n3; have z2 := held_now hw' n4; go_simp; rfl) hS ?_
                refine take_listL (i := 3) (v := .pointer (some ⟨b10, 1, none⟩)) rfl (by kernel_rfl) (by kernel_rfl) (by kernel_rfl) (by kernel_rfl) (by kernel_rfl) (fun _ _ _ h => h) (by rfl) (by intro w' hw'; go_simp) hS ?_
                refine take_listL (i := 4) (v := .int .i64 g2) rfl (by kernel_rfl) (by kernel_rfl) (by kernel_rfl) (by kernel_rfl) (by kernel_rfl) (fun _ _ _ h => h) (by rfl) (by intro w' hw'; have z := held_now hw' e2; go_simp) hS ?_
                refine take_listL (i := 5) (v := .pointer (some ⟨B, 0, none⟩)) rfl (by kernel_rfl) (by kernel_rfl) (by kernel_rfl) (by kernel_rfl) (by kernel_rfl) (fun _ _ _ h => h) (by rfl) (by intro w' hw'; go_simp) hS ?_
                refine take_listL (i := 6) (v := .pointer (some ⟨B, 0, none⟩)) rfl (by kernel_rfl) (by kernel_rfl) (by kernel_rfl) (by kernel_rfl) (by kernel_rfl) (fun _ _ _ h => h) (by rfl) (by intro w' hw'; have z := held_now hw' e5; have qb := held_now hw' HK5.out.b0; go_simp) hS ?_
                refine take_listL (i := 7) (v := .pointer (some ⟨B, 5, none⟩)) rfl (by kernel_rfl) (by kernel_rfl) (by kernel_rfl) (by kernel_rfl) (by kernel_rfl) (fun _ _ _ h => h) (by rfl) (by intro w' hw'; go_simp) hS ?_
                refine take_listL (i := 8) (v := .slice (some ⟨Tb, 0, none⟩) t.length t.length) rfl (by kernel_rfl) (by kernel_rfl) (by kernel_rfl) (by kernel_rfl) (by kernel_rfl) (fun _ _ _ h => h) (by rfl) (by intro w' hw'; have z := held_now hw' e5; go_simp) hS ?_
                refine take_listL (i := 9) (v := .int .i64 k) rfl (by kernel_rfl) (by kernel_rfl) (by kernel_rfl) (by kernel_rfl) (by kernel_rfl) (fun _ _ _ h => h) (by rfl) (by intro w' hw'; go_simp) hS ?_
                refine take_listL (i := 10) (v := .pointer (some ⟨Tb, k, none⟩)) rfl (by kernel_rfl) (by kernel_rfl) (by kernel_rfl) (by kernel_rfl) (by kernel_rfl) (fun _ _ _ h => h) (by rfl) (by intro w' hw'; go_simp) hS ?_
                refine take_listL (i := 11) (v := .int .i64 x) rfl (by kernel_rfl) (by kernel_rfl) (by kernel_rfl) (by kernel_rfl) (by kernel_rfl) (fun _ _ _ h => h) (by rfl) (by intro w' hw'; have z := held_now hw' et; go_simp) hS ?_
                refine take_listL (i := 12) (v := .int .i64 (g2 - x)) rfl (by kernel_rfl) (by kernel_rfl) (by kernel_rfl) (by kernel_rfl) (by kernel_rfl) (fun _ _ _ h => h) (by rfl) (by intro w' hw'; go_simp) hS ?_
                refine take_listL (i := 13) (v := .int .i64 k) rfl (by kernel_rfl) (by kernel_rfl) (by kernel_rfl) (by kernel_rfl) (by kernel_rfl) (fun _ _ _ h => h) (by rfl) (by intro w' hw'; go_simp) hS ?_
                refine take_listL (i := 14) (v := lkV ⟨ownN' q, pckN r, 0, g2 - x, (k : Int), 1⟩) rfl (by kernel_rfl) (by kernel_rfl) (by kernel_rfl) (by kernel_rfl) (by kernel_rfl) (fun _ _ _ h => h) (by rfl) (by intro w' hw'; simp only [nodeV, ownN', pckN]; go_simp; rfl) hS ?_
                refine take_listL (i := 15) (v := nodeV (pckN r)) rfl (by kernel_rfl) (by kernel_rfl) (by kernel_rfl) (by kernel_rfl) (by kernel_rfl) (fun _ _ _ h => h) (by rfl) (by intro w' hw'; have z1 := held_now hw' n3; have z2 := held_now hw' n4; go_simp; rfl) hS ?_
                refine take_listL (i := 16) (v := nodeV (ownN' q)) rfl (by kernel_rfl) (by kernel_rfl) (by kernel_rfl) (by kernel_rfl) (by kernel_rfl) (fun _ _ _ h => h) (by rfl) (by intro w' hw'; have z1 := held_now hw' n1; have z2 := held_now hw' n2; go_simp; rfl) hS ?_
                refine take_listL (i := 17) (v := .pointer (some ⟨B, 0, none⟩)) rfl (by kernel_rfl) (by kernel_rfl) (by kernel_rfl) (by kernel_rfl) (by kernel_rfl) (fun _ _ _ h => h) (by rfl) (by intro w' hw'; go_simp) hS ?_
                refine take_listL (i := 18) (v := .pointer (some ⟨B, 0, none⟩)) rfl (by kernel_rfl) (by kernel_rfl) (by kernel_rfl) (by kernel_rfl) (by kernel_rfl) (fun _ _ _ h => h) (by rfl) (by intro w' hw'; have z := held_now hw' e5; have qb := held_now hw' HK5.out.b0; go_simp) hS ?_
                refine take_listL (i := 19) (v := .pointer (some ⟨B, 5, none⟩)) rfl (by kernel_rfl) (by kernel_rfl) (by kernel_rfl) (by kernel_rfl) (by kernel_rfl) (fun _ _ _ h => h) (by rfl) (by intro w' hw'; go_simp) hS ?_
                refine take_listL (i := 20) (v := .slice (some ⟨Tb, 0, none⟩) t.length t.length) rfl (by kernel_rfl) (by kernel_rfl) (by kernel_rfl) (by kernel_rfl) (by kernel_rfl) (fun _ _ _ h => h) (by rfl) (by intro w' hw'; have z := held_now hw' e5; go_simp) hS ?_
                refine take_listL (i := 21) (v := .int .i64 k) rfl (by kernel_rfl) (by kernel_rfl) (by kernel_rfl) (by kernel_rfl) (by kernel_rfl) (fun _ _ _ h => h) (by rfl) (by intro w' hw'; go_simp) hS ?_
                refine take_listL (i := 22) (v := .pointer (some ⟨Tb, k, none⟩)) rfl (by kernel_rfl) (by kernel_rfl) (by kernel_rfl) (by kernel_rfl) (by kernel_rfl) (fun _ _ _ h => h) (by rfl) (by intro w' hw'; go_simp) hS ?_
                refine take_listL (i := 23) (v := .int .i64 x) rfl (by kernel_rfl) (by kernel_rfl) (by kernel_rfl) (by kernel_rfl) (by kernel_rfl) (fun _ _ _ h => h) (by rfl) (by intro w' hw'; have z := held_now hw' et; go_simp) hS ?_
                refine take_listL (i := 24) (v := .pointer (some ⟨b10, 0, none⟩)) rfl (by kernel_rfl) (by kernel_rfl) (by kernel_rfl) (by kernel_rfl) (by kernel_rfl) (fun _ _ _ h => h) (by rfl) (by intro w' hw'; go_simp) hS ?_
                refine take_listL (i := 25) (v := .int .i64 g1) rfl (by kernel_rfl) (by kernel_rfl) (by kernel_rfl) (by kernel_rfl) (by kernel_rfl) (fun _ _ _ h => h) (by rfl) (by intro w' hw'; have z := held_now hw' e1; go_simp) hS ?_
                refine take_listL (i := 26) (v := .int .i64 (x - g1)) rfl (by kernel_rfl) (by kernel_rfl) (by kernel_rfl) (by kernel_rfl) (by kernel_rfl) (fun _ _ _ h => h) (by rfl) (by intro w' hw'; go_simp) hS ?_
                refine take_listL (i := 27) (v := .int .i64 k) rfl (by kernel_rfl) (by kernel_rfl) (by kernel_rfl) (by kernel_rfl) (by kernel_rfl) (fun _ _ _ h => h) (by rfl) (by intro w' hw'; go_simp) hS ?_
                refine take_listL (i := 28) (v := lkV ⟨pckN r, ownN' q, 0, x - g1, (k : Int), -1⟩) rfl (by kernel_rfl) (by kernel_rfl) (by kernel_rfl) (by kernel_rfl) (by kernel_rfl) (fun _ _ _ h => h) (by rfl) (by intro w' hw'; simp only [nodeV, ownN', pckN]; go_simp; rfl) hS ?_
                clear e1 e2 e3 e5 et n1 n2 n3 n4
                (try simp only [Act.put, List.setIfInBounds_toArray, List.set_cons_zero, List.set_cons_succ])
                have HSS := Lib.hid hS
                clear hS
                refine step_listL (i := 29) (by kernel_rfl) rfl (by decide) (by rfl) (fun K hK => ?_)
                simp only [lkV, lkC]
                go_simp
                obtain ⟨NL, hNL⟩ : ∃ NL : List Lk, NL = [⟨ownN' q, pckN r, 0, g2 - x, (k : Int), 1⟩, ⟨pckN r, ownN' q, 0, x - g1, (k : Int), -1⟩] := ⟨_, rfl⟩
                have hcl : (lksC NL).toArray = #[.int .i64 (ownN' q).1, .int .i64 (ownN' q).2, .int .i64 (pckN r).1, .int .i64 (pckN r).2, .int .i64 0, .int .i64 (g2 - x), .int .i64 (k : Int), .int .i64 1, .int .i64 (pckN r).1, .int .i64 (pckN r).2, .int .i64 (ownN' q).1, .int .i64 (ownN' q).2, .int .i64 0, .int .i64 (x - g1), .int .i64 (k : Int), .int .i64 (-1)] := by rw [hNL]; rfl
                obtain ⟨w5, hw5⟩ : ∃ w5, w5 = w0.alloc (.cells (lksC NL).toArray 114) := ⟨_, rfl⟩
                obtain ⟨g, hg⟩ : ∃ g, g = w0.heap.size := ⟨_, rfl⟩
                have hgh : w5.heap[g]? = some (.cells (lksC NL).toArray 114 (0, 0)) := by rw [hw5, hg]; exact heap_alloc_last w0 _
                have hS5 : Below wc.heap.size wc w5 := by rw [hw5]; exact HSS.out.alloc HSS.out.size _
                have hN2 : NL.length = 2 := by rw [hNL]; rfl
                have HNL : Hid (NL = lkC2 s t k) := Lib.hid (by rw [hNL]; unfold lkC2; rw [HXO.out.2.1, ← HXO.out.1, ← HXO.out.2.2.1, ← HXO.out.2.2.2])
                rw [← hcl, ← hw5, ← hg]
                refine hK _ _ hS5 ?_
                clear hK K hw5 hcl hg hNL
                (try simp only [Act.put, List.setIfInBounds_toArray, List.set_cons_zero, List.set_cons_succ])
                refine last_listL (i := 30) (by kernel_rfl) rfl (by decide) (by rfl) (fun K hK => ?_)
                have hol5 := pw_own_below HVL.out.2 hS5
                refine wp_append_own w5 (.tmp 100) (.tmp 129) 106 rfl w3.heap.size 114 il (lkV lk0) 8 64 Tryd.underlying106 hil hl0 hl1 hl2 rfl (by decide) vl _ (lksC (lkA s t k)) rfl hol5 ⟨g, 0, none⟩ 2 2 (lksC NL) rfl (by rw [lksC_length, hN2]) (cells_of_row hgh) (lks_one _) (by rw [lkA_length]; unfold maxLen; have := HT.out.n5; have := HT.out.m5; omega) (by rw [lkA_length]; have := HT.out.n5; have := HT.out.m5; omega) (by have := H5.out.size; have := hS5.size; omega) ?_
                intro v6 w6 hown6 hg6 _
                obtain ⟨A6, c6, rfl⟩ := own_opened hown6
                obtain ⟨n6, hn6⟩ : ∃ n6, n6 = (lkA s t k).length + 2 := ⟨_, rfl⟩
                rw [← hn6] at hown6 ⊢
                have HST := Lib.hid (H5.out.more (N := NL) HVL.out.1 HVL.out.2 (by have := HN.out; omega) hS5 (by have := HN.out; omega) (by have h := hown6; rw [hn6] at h; rw [hN2]; exact h) hg6)
                rw [← hn6] at HST
                clear hn6
                have hne : some b3 ≠ vl.ownBlock := own_ne HVL.out.2 (by have := HN.out; omega)
                have h6 : w6.heap[b3]? = some (.cells #[vl] 106 (0, 0)) := by
                  rw [hg6.block b3 (by have := heap_lt HVL.out.1; have := hS5.size; omega) hne, hS5.block b3 (heap_lt HVL.out.1)]
                  exact HVL.out.1
                have hc6 : w6.cell? ⟨b3, 0, none⟩ = some vl := by rw [cell_of_row _ _ _ _ _ _ h6]; rfl
                have hf6 : w6.frozen? ⟨b3, 0, none⟩ = false := frozen_of_row w6 _ 0 _ _ h6
                refine hK _ _ ?_
                clear hK K hol5 hgh hown6 hg6 hne h6
                (try simp only [Act.put, List.setIfInBounds_toArray, List.set_cons_zero, List.set_cons_succ])
                refine last_listL (i := 31) (by kernel_rfl) rfl (by decide) (by rfl) (fun K hK => ?_)
                go_simp
                refine hK _ _ ?_
                clear hK K
                (try simp only [Act.put, List.setIfInBounds_toArray, List.set_cons_zero, List.set_cons_succ])
                refine wpAnyLast_done (by kernel_rfl) ?_ _
                obtain ⟨w7, hw7⟩ : ∃ w7, w7 = w6.setCell ⟨b3, 0, none⟩ (.slice A6 n6 c6) := ⟨_, rfl⟩
                rw [← hw7] at HST ⊢
                clear hw7 hc6 hf6
                go_wp2
                go_roundw
                case rel => exact ⟨k + 1, by omega, by go_num, Lib.hid (by rw [lkA_succ, ← HNL.out]; exact HST.out)⟩
                case measure => simp [intOf]; omega
            · have hnl : ¬ ((k : Int) < (s.l4.length : Int)) := by omega
              have hke : k = s.l4.length := by omega
              have HE : Hid (LkSt w w3 b3 w3.heap.size (linksL s.sh (tat t)) wr) := Lib.hid (by have h := HR.out; rw [hke, lkA_is] at h; exact h)
              clear hke ht hl4 h25 hk HR
              go_wp2
              go_ret
              obtain ⟨v, hv1, hv2⟩ := HE.out.row
              obtain ⟨hn1, hn2, hn3⟩ := HN.out
              exact ⟨b3, rfl, v, hv1, own_lower hv2 (by omega), by omega, Ne.symm (own_ne hv2 (by omega)), HE.out.below⟩
end Go.Proofs.YtcbhnhoicecnnaaDoor.Hand
namespace Go.Proofs.YtcbhnhoicecnnaaDoor.Hand
set_option linter.unusedVariables false
set_option linter.unusedSimpArgs false
open Go.RowKit
section
variable {P : Program} {ops : Array Oper} {C : World → Prop} {n : Nat}
theorem quiet_round {o : Oper} {a : Act} {K : Act → Prop} {K' : Act → World → Prop} {Q' : Exit → Act → World → Prop} {w : World} (r : Nat) (hd : ∀ c, o.op ≠ .defer c) (hw : C w) (h : ∀ a w', C w' → K a → K' a w')
    (hh : o.quiet P a C K) : o.wpIn (Fence.wide.inRound r) n P a w K' Q' := by
  obtain ⟨v, h1, h2⟩ := hh
  have h3 := h1 w hw
  unfold Oper.quietAt at h3
  unfold Oper.wpIn
  refine ⟨fun _ _ => trivial, ?_⟩
  rw [Oper.semAt_eq _ _ _ hd]
  generalize (execOp a.eval o).run P w = q at *
  cases q with
  | halt x w' => exact h3.elim
  | ok x w' =>
    cases x with
    | value u =>
      obtain ⟨rfl, rfl⟩ := h3
      exact h _ _ hw h2
    | skip =>
      obtain ⟨rfl, rfl⟩ := h3
      exact h _ _ hw h2
    | enter f args =>
      obtain ⟨rfl, hc⟩ := h3
      exact ⟨fun e => by simp [Fence.wide, Fence.inRound] at e, ((callsIn_wide.2 hc).inRound r).mono fun e w'' ⟨he, hw''⟩ => by subst he; exact h _ _ hw'' h2⟩
    | _ => exact h3.elim
theorem any_round {Q : Act → Prop} {Q' : Exit → Act → World → Prop} (r : Nat) (hd : ∀ (i : Nat) (o : Oper), ops[i]? = some o → ∀ c, o.op ≠ .defer c) (hQ : ∀ a w, C w → Q a → Q' .normal a w) :
    ∀ (fuel : Nat) (listed : Array Bool) (a : Act) (w : World), C w → wpAnyQ P .any ops C Q fuel listed a → wpAnyIn (Fence.wide.inRound r) n P .any ops Q' fuel listed a w
  | 0, _, _, _, hw, h => ⟨h.1, hQ _ _ hw h.2⟩
  | fuel + 1, listed, a, w, hw, h => ⟨fun h0 => hQ _ _ hw (h.1 h0), fun i hi => by
      have hh := h.2 i hi
      unfold qOp at hh
      unfold wpOpIn
      split
      · rename_i ho; simp only [ho] at hh; exact any_round r hd hQ fuel _ _ _ hw hh
      · rename_i o ho
        simp only [ho] at hh
        split
        · rename_i hg; simp only [hg, if_true] at hh
          exact quiet_round r (hd i o ho) hw (fun a' w' hw' => any_round r hd hQ fuel _ a' w' hw') hh
        · rename_i hg; simp only [hg] at hh
          exact ⟨fun _ _ => trivial, any_round r hd hQ fuel _ _ _ hw hh⟩⟩
def calmB (ops : Array Oper) : Bool := ops.toList.all fun o => match o.op with | .defer _ => false | _ => true
theorem calm_spec (h : calmB ops = true) : ∀ (i : Nat) (o : Oper), ops[i]? = some o → ∀ c, o.op ≠ .defer c := by
  intro i o ho c hc
  have hm : o ∈ ops.toList := by
    obtain ⟨hi, e⟩ := Array.getElem?_eq_some_iff.1 ho
    rw [← e]; exact Array.getElem_mem_toList hi
  have := List.all_eq_true.1 h o hm
  rw [hc] at this
  cases this
theorem wpIn_region_kept {id : Nat} {Q : Exit → Act → World → Prop} {a : Act} {w : World} {l : List Oper} (r : Nat) (m : Nat) (w0 : World) (hm : P.follows .mixedOrders = true) (hB : Region.lexB .any l.toArray = true) (hd : calmB l.toArray = true) (hb : Below m w0 w)
    (h : wpQuiet P l.toArray (fun w' => ∃ x : Kw m w0, w' = x.1) (fun a' => ∀ w', (∃ x : Kw m w0, w' = x.1) → Q .normal a' w') l a) : (Code.region id l.toArray true).wpIn (Fence.wide.inRound r) n P Q a w := by
  simp only [Region.lexB, Bool.and_eq_true] at hB
  have hC : ∃ x : Kw m w0, w.drew = x.1 := ⟨⟨_, hb.drew⟩, rfl⟩
  refine wpIn_region_any hm (any_round r (calm_spec hd) (C := fun w' => ∃ x : Kw m w0, w' = x.1) (Q := fun a' => ∀ w', (∃ x : Kw m w0, w' = x.1) → Q .normal a' w') (fun _ w' hw' h => h w' hw') _ _ _ _ hC ?_)
  have := wpAnyQ_lex (P := P) (C := fun w' => ∃ x : Kw m w0, w' = x.1) (md := .any) hB.1 l 0 (Array.replicate l.toArray.size false) a (by simp) (by simpa using hB.2) h
  simpa using this
end
end Go.Proofs.YtcbhnhoicecnnaaDoor.Hand
namespace Go.Proofs.YtcbhnhoicecnnaaDoor.Hand
set_option linter.unusedVariables false
set_option linter.unusedSimpArgs false
open Go.RowKit Go.Shelf Go.Maps Go.Proofs.YtcbhnhoicecnnaaDoorW.PrintWords Go.Proofs.YtcbhnhoicecnnaaDoorW.PrintLast Go.Proofs.YtcbhnhoicecnnaaDoorW.PrintMore Go.Proofs.YtcbhnhoicecnnaaDoor.PrK
attribute [local go_sem] Oper.semAt_some
structure KeepG (g : Nat) (W W' : World) : Prop where
  row : W'.heap[g]? = W.heap[g]?
  size : W.heap.size ≤ W'.heap.size
theorem KeepG.trans {g : Nat} {X Y Z : World} (h : KeepG g X Y) (k : KeepG g Y Z) : KeepG g X Z := ⟨k.row.trans h.row, Nat.le_trans h.size k.size⟩
theorem KeepG.of_below {g : Nat} {W W' : World} (h : Below W.heap.size W W') (hg : g < W.heap.size) : KeepG g W W' := ⟨h.block g hg, h.size⟩
theorem lksC_get (L : List Lk) (k : Nat) (h : k < L.length) (j : Nat) (hj : j < 8) : (lksC L)[k * 8 + j]? = (lkC L[k])[j]? := by
  induction L generalizing k with
  | nil => exact absurd h (Nat.not_lt_zero _)
  | cons x L ih =>
    rw [lksC, List.flatMap_cons]
    cases k with
    | zero => rw [Nat.zero_mul, Nat.zero_add, List.getElem?_append_left (by simp [lkC]; omega)]; rfl
    | succ k =>
      have := ih k (by simpa using h)
      rw [List.getElem?_append_right (by simp [lkC]; omega), show (k + 1) * 8 + j - (lkC x).length = k * 8 + j by simp [lkC]; omega]
      exact this
def cntL (L : List Lk) (k : Nat) : Nat := ((L.take k).filter fun x => decide (0 < x.room)).length
theorem cntL_succ (L : List Lk) (k : Nat) (h : k < L.length) : cntL L (k + 1) = cntL L k + if 0 < L[k].room then 1 else 0 := by
  unfold cntL
  rw [List.take_succ_eq_append_getElem h, List.filter_append, List.length_append]
  congr 1
  by_cases g : 0 < L[k].room <;> simp [g]
theorem cntL_lt (L : List Lk) (k : Nat) (h : k < L.length) (hr : 0 < L[k].room) : ∃ hc : cntL L k < (L.filter fun x => decide (0 < x.room)).length, (L.filter fun x => decide (0 < x.room))[cntL L k] = L[k] := by
  have e : L.filter (fun x => decide (0 < x.room)) = (L.take k).filter (fun x => decide (0 < x.room)) ++ (L[k] :: (L.drop (k + 1)).filter fun x => decide (0 < x.room)) := by
    conv => lhs; rw [← List.take_append_drop k L, List.filter_append, List.drop_eq_getElem_cons h, List.filter_cons, if_pos (decide_eq_true hr)]
  have hc : cntL L k < (L.filter fun x => decide (0 < x.room)).length := by rw [e, List.length_append]; unfold cntL; simp
  refine ⟨hc, ?_⟩
  have h1 : (L.filter fun x => decide (0 < x.room))[cntL L k]? = some L[k] := by
    rw [e, List.getElem?_append_right (by unfold cntL; exact Nat.le_refl _)]
    unfold cntL
    simp
  rw [List.getElem?_eq_getElem hc] at h1
  exact Option.some.inj h1
theorem cntL_end (L : List Lk) : cntL L L.length = (L.filter fun x => decide (0 < x.room)).length := by unfold cntL; rw [List.take_length]
set_option maxRecDepth 100000 in
set_option maxHeartbeats 4000000 in
theorem links_stops {α : Type} (val : α → Lk) (LA : List α) (L : List Lk) (hLA : LA.map val = L.filter fun x => decide (0 < x.room)) (b3 g c : Nat) (w : World) (hL : L.length ≤ 1000) (hb : ∀ x ∈ L, -2000000 ≤ x.room ∧ x.room ≤ 2000000000000)
    (hv : w.heap[b3]? = some (.cells #[.slice (some ⟨g, 0, none⟩) L.length c] 106 (0, 0))) (cur : Array Value) (hg : w.heap[g]? = some (.cells cur 114 (0, 0))) (hcur : cur.toList.take (L.length * 8) = lksC L) (n : Nat) :
    SeqStopsK Fence.wide n Tryd.prog 85 #[.pointer (some ⟨b3, 0, none⟩)] (fun x => #[lkV (val x)]) (KeepG g) (fun xs => xs = LA) (fun pre => pre <+: LA) LA.length w := fun lo J Jx W hW hJ hJx hY h0 => by
  have hu2 := Tryd.underlying114
  have d0 : W.cell? ⟨b3, 0, none⟩ = some (.slice (some ⟨g, 0, none⟩) L.length c) := by rw [cell_of_row W _ _ _ _ _ ((hW.block b3 (heap_lt hv)).trans hv)]; rfl
  have HG := Lib.hid ((hW.block g (heap_lt hg)).trans hg)
  have HC := Lib.hid hcur
  have HJ := Lib.hid hJ
  have HY := Lib.hid hY
  have H0 := Lib.hid h0
  have HL := Lib.hid hL
  have HBD := Lib.hid hb
  have HLA := Lib.hid hLA
  have HLN : Hid ((L.filter fun x => decide (0 < x.room)).length = LA.length) := Lib.hid (by rw [← hLA, List.length_map])
  clear hJ hJx hY h0 hW hL hb hv hg hcur hLA
  refine callsIn_of_wp Tryd.func85 rfl trivial ?_ rfl
  simp only [Tryd.ntmps85, List.size_toArray, List.length_cons, List.length_nil, Nat.reduceAdd, Nat.reduceSub, Array.replicate_succ, Array.replicate_zero, List.push_toArray, List.append_toArray, List.nil_append, List.cons_append]
  gi_wp2
  gi_loopw [4, 7] (fun _ i wr => ∃ k : Nat, k ≤ L.length ∧ i = .int .i64 k ∧ Hid (J (LA.take (cntL L k)) wr ∧ KeepG g W wr)) (fun _ i _ => 2000 - (intOf i).toNat)
  case atStart => exact ⟨0, Nat.zero_le _, rfl, Lib.hid ⟨by rw [show cntL L 0 = 0 from rfl, List.take_zero]; exact H0.out, rfl, Nat.le_refl _⟩⟩
  case round =>
    obtain ⟨k, hk, rfl, HI⟩ := hrel
    have hk1000 : (k : Int) ≤ 1000 := by have := HL.out; omega
    by_cases hlt : k < L.length
    · have hlti : (k : Int) < (L.length : Int) := by omega
      have p0 : (0 : Int) ≤ (k : Int) := by omega
      obtain ⟨x, hx⟩ : ∃ x, x = L[k] := ⟨_, rfl⟩
      have hcell : ∀ j v, (lkC x)[j]? = some v → wr.cell? ⟨g, k * 8 + j, none⟩ = some v := fun j v hjv => by
        rw [cell_of_row wr g _ _ _ _ (HI.out.2.row.trans HG.out)]
        have hj8 : j < 8 := by have := (List.getElem?_eq_some_iff.1 hjv).1; simpa [lkC] using this
        have h1 := lksC_get L k hlt j hj8
        rw [← HC.out, List.getElem?_take, if_pos (by omega), ← hx, hjv] at h1
        simpa using h1
      have c0 := hcell 0 _ rfl
      have c1 := hcell 1 _ rfl
      have c2 := hcell 2 _ rfl
      have c3 := hcell 3 _ rfl
      have c4 := hcell 4 _ rfl
      have c5 := hcell 5 _ rfl
      have c6 := hcell 6 _ rfl
      have c7 := hcell 7 _ rfl
      rw [Nat.add_zero] at c0
      have hrb := HBD.out x (by rw [hx]; exact List.getElem_mem hlt)
      obtain ⟨rb0, rb1⟩ := hrb
      have hcnt := cntL_succ L k hlt
      rw [← hx] at hcnt
      have HX := Lib.hid hx
      by_cases hr : 0 < x.room
      · have hd : decide (0 < x.room) = true := decide_eq_true hr
        rw [if_pos hr] at hcnt
        have HCN := Lib.hid hcnt
        obtain ⟨hc1, hc2⟩ := cntL_lt L k hlt (by rw [← HX.out]; exact hr)
        have hlen : cntL L k < LA.length := by have := HLN.out; omega
        obtain ⟨x', hx'⟩ : ∃ x', x' = LA[cntL L k] := ⟨_, rfl⟩
        have hval : val x' = x := by
          have h1 : (LA.map val)[cntL L k]? = some (val x') := by rw [List.getElem?_map, List.getElem?_eq_getElem hlen, hx']; rfl
          rw [HLA.out, List.getElem?_eq_getElem hc1, hc2, ← HX.out] at h1
          exact (Option.some.inj h1).symm
        have hJe := HJ.out _ _ (wr.alloc (.cells (lkC x).toArray 114)) none HI.out.1 (World.grownBy_alloc _ _ _) (fun r e => by cases e)
        obtain ⟨fn, tmps, assign, body, hy, hR⟩ := HY.out _ x' _ hJe (by rw [List.length_take]; omega)
        have HRR := Lib.hid hR
        have HTK : Hid (LA.take (cntL L (k + 1)) = LA.take (cntL L k) ++ [x']) := Lib.hid (by rw [HCN.out, List.take_succ_eq_append_getElem hlen, hx'])
        have HKA : Hid (KeepG g W (wr.alloc (.cells (lkC x).toArray 114))) := Lib.hid (HI.out.2.trans (KeepG.of_below ((Below.refl _ _).alloc (Nat.le_refl _) _) (heap_lt (HI.out.2.row.trans HG.out))))
        rw [hval] at hy
        dsimp only [lkV, lkC] at hy
        clear hR hJe hlen hx' hval hcnt hc1 hc2 hx hcell
        gi_wp2
        refine ⟨fun h => (by simp [Fence.wide] at h), HRR.out.mono ?_⟩
        rintro e' w7 (⟨rfl, hJ7, hk7⟩ | ⟨rfl, hx7⟩)
        · have H7 := Lib.hid (And.intro hJ7 (HKA.out.trans hk7))
          clear hJ7 hk7 HRR hy c0 c1 c2 c3 c4 c5 c6 c7
          gi_wp2
          go_roundw
          case rel => exact ⟨k + 1, by omega, by go_num, Lib.hid ⟨by rw [HTK.out]; exact H7.out.1, H7.out.2⟩⟩
          case measure => simp [intOf]; omega
        · have H7 := Lib.hid hx7
          clear hx7 HRR hy c0 c1 c2 c3 c4 c5 c6 c7
          gi_wp2
          refine bodyPost_ret (results_none rfl _ _ _) rfl ?_
          refine ⟨⟨_, rfl⟩, .inr ⟨_, ?_, H7.out⟩⟩
          rw [← HTK.out]
          exact List.take_prefix _ _
      · have hd : decide (0 < x.room) = false := decide_eq_false hr
        rw [if_neg hr, Nat.add_zero] at hcnt
        have HCN := Lib.hid hcnt
        have HJA := Lib.hid (HJ.out _ _ (wr.alloc (.cells (lkC x).toArray 114)) none HI.out.1 (World.grownBy_alloc _ _ _) (fun r e => by cases e))
        have HKA : Hid (KeepG g W (wr.alloc (.cells (lkC x).toArray 114))) := Lib.hid (HI.out.2.trans (KeepG.of_below ((Below.refl _ _).alloc (Nat.le_refl _) _) (heap_lt (HI.out.2.row.trans HG.out))))
        clear hcnt hx hcell
        gi_wp2
        refine ⟨fun f h => (by cases h), ?_⟩
        gi_wp2
        go_roundw
        case rel => exact ⟨k + 1, by omega, by go_num, Lib.hid ⟨by rw [HCN.out]; exact HJA.out, HKA.out⟩⟩
        case measure => simp [intOf]; omega
    · have hnl : ¬ (k : Int) < (L.length : Int) := by omega
      have HK : Hid (k = L.length) := Lib.hid (by omega)
      gi_wp2
      go_end0
      exact ⟨⟨_, rfl⟩, .inl (by have h := HI.out.1; rw [HK.out, cntL_end, HLN.out, List.take_length] at h; exact h)⟩
end Go.Proofs.YtcbhnhoicecnnaaDoor.Hand
namespace Go.Proofs.YtcbhnhoicecnnaaDoor.Hand
set_option linter.unusedVariables false
set_option linter.unusedSimpArgs false
open Go.RowKit Go.Shelf Go.Maps Go.Proofs.YtcbhnhoicecnnaaDoorW.PrintWords Go.Proofs.YtcbhnhoicecnnaaDoorW.PrintLast Go.Proofs.YtcbhnhoicecnnaaDoorW.PrintMore Go.Proofs.YtcbhnhoicecnnaaDoor.PrK
attribute [local go_sem] Oper.semAt_some
structure HoleL (bs : List Nat) (n : Nat) (w w' : World) : Prop where
  os : w'.os = w.os
  tape : w'.tape = w.tape
  output : w'.output = w.output
  size : w.heap.size ≤ w'.heap.size
  block : ∀ k, k < n → k ∉ bs → w'.heap[k]? = w.heap[k]?
theorem HoleL.refl (bs : List Nat) (n : Nat) (w : World) : HoleL bs n w w := ⟨rfl, rfl, rfl, Nat.le_refl _, fun _ _ _ => rfl⟩
theorem HoleL.of_below {bs : List Nat} {n m : Nat} {w w' : World} (h : Below m w w') (hn : n ≤ m) : HoleL bs n w w' := ⟨h.os, h.tape, h.output, h.size, fun k hk _ => h.block k (by omega)⟩
theorem HoleL.of_grown {bs : List Nat} {n b : Nat} {w w' : World} (h : w.grownBy w' (some b)) (hb : b ∈ bs) (hn : n ≤ w.heap.size) : HoleL bs n w w' :=
  ⟨h.os, h.tape, h.output, h.size, fun k hk hB => h.block k (by omega) (fun e => hB (by cases e; exact hb))⟩
theorem HoleL.trans {bs : List Nat} {n m : Nat} {a b c : World} (h : HoleL bs n a b) (k : HoleL bs m b c) (hm : n ≤ m) : HoleL bs n a c :=
  ⟨k.os.trans h.os, k.tape.trans h.tape, k.output.trans h.output, Nat.le_trans h.size k.size, fun i hi hB => (k.block i (by omega) hB).trans (h.block i hi hB)⟩
theorem HoleL.more {bs cs : List Nat} {n : Nat} {w w' : World} (h : HoleL bs n w w') (hs : ∀ b ∈ bs, b ∈ cs ∨ n ≤ b) : HoleL cs n w w' :=
  ⟨h.os, h.tape, h.output, h.size, fun k hk hc => h.block k hk fun hb => by rcases hs k hb with g | g; exact hc g; omega⟩
theorem HoleL.cell {bs : List Nat} {n : Nat} {w w' : World} (h : HoleL bs n w w') {p : Addr} (hp : p.block < n) (hB : p.block ∉ bs) : w'.cell? p = w.cell? p := World.cell?_of_block (w := w) (h.block p.block hp hB)
theorem HoleL.below {bs : List Nat} {n m : Nat} {w w' : World} (h : HoleL bs n w w') (hm : m ≤ n) (hB : ∀ b ∈ bs, m ≤ b) : Below m w w' :=
  ⟨h.os, h.tape, h.output, h.size, fun k hk => h.block k (by omega) (fun hb => by have := hB k hb; omega)⟩
theorem HoleL.set {bs : List Nat} {n : Nat} {w w' : World} (h : HoleL bs n w w') {p : Addr} (hp : p.block ∈ bs ∨ n ≤ p.block) (v : Value) : HoleL bs n w (w'.setCell p v) :=
  ⟨h.os, h.tape, h.output, by have := h.size; simp; omega, fun k hk hB => by
    rw [Below.heap_setCell w' p v k (fun e => by subst e; rcases hp with g | g; exact hB g; omega)]
    exact h.block k hk hB⟩
theorem hole_own {β : Type} {bs : List Nat} {n m : Nat} (W1 : World) (h : n ≤ m) (hn : n ≤ W1.heap.size) : OwnFrom m (fun (_ : β) W => HoleL bs n W1 W) := fun s X Y row hs hg hr =>
  ⟨hg.os.trans hs.os, hg.tape.trans hs.tape, hg.output.trans hs.output, Nat.le_trans hs.size hg.size, fun k hk hkB =>
    (hg.block k (by have := hs.size; omega) (fun e => by have := (hr k e.symm).1; omega)).trans (hs.block k hk hkB)⟩
theorem block_kept {X Y : World} {n : Nat} {row : Option Nat} {k : Nat} {o : Obj} (ho : X.heap[k]? = some o) (hk : k < n) (hg : X.grownBy Y row) (hr : ∀ r, row = some r → n ≤ r ∧ ∃ o : Obj, X.heap[r]? = some o ∧ o.isCells = false) : Y.heap[k]? = some o :=
  (hg.block k (heap_lt ho) (fun e => by have := (hr k e.symm).1; omega)).trans ho
def FarAt (W : World) (M : Nat) (far : Int × Int → Int) : Prop := ∃ F, MapAt W M F ∧ ∀ k, okN k → (F k).getD (.int .i64 0) = .int .i64 (far k)
def BefAt (W : World) (M : Nat) (bef : Int × Int → Option Lk) : Prop := MapAt W M fun k => (bef k).map lkV
theorem zeroInt (w : World) : (zeroValue 3).run Tryd.prog w = .ok (.int .i64 0) w := by kernel_rfl
theorem zeroLk (w : World) : (zeroValue 114).run Tryd.prog w = .ok (lkV lk0) w := by kernel_rfl
theorem FarAt.of_heap {W W' : World} {M : Nat} {far : Int × Int → Int} (h : FarAt W M far) (he : W'.heap[M]? = W.heap[M]?) : FarAt W' M far := by
  obtain ⟨F, h1, h2⟩ := h
  exact ⟨F, h1.of_heap he, h2⟩
theorem FarAt.lt {W : World} {M : Nat} {far : Int × Int → Int} (h : FarAt W M far) : M < W.heap.size := by
  obtain ⟨F, h1, -⟩ := h
  exact h1.lt
theorem FarAt.look {W : World} {M : Nat} {far : Int × Int → Int} (h : FarAt W M far) {k : Int × Int} (ok : okN k) : (Instr.lookup 77 (.map (some M)) (nodeV k) false).run Tryd.prog W = .ok (.int .i64 (far k)) W := by
  obtain ⟨F, h1, h2⟩ := h
  have := (h1.look Tryd.underlying77 (zeroInt W) ok).1
  rw [h2 k ok] at this
  exact this
theorem FarAt.entry {W : World} {M : Nat} {far : Int × Int → Int} (h : FarAt W M far) {k : Int × Int} (ok : okN k) (v : Int) :
    ∃ v0 st W1 W2, (Instr.mapEntry 77 (.map (some M)) (nodeV k)).run Tryd.prog W = .ok (.tuple #[v0, .int .i64 st]) W1 ∧ (Instr.entryStore 77 (.map (some M)) (.int .i64 st) (.int .i64 v)).run Tryd.prog W1 = .ok () W2 ∧
      FarAt W2 M (upd far k v) ∧ W.grownBy W1 (some M) ∧ W.grownBy W2 (some M) := by
  obtain ⟨F, h1, h2⟩ := h
  obtain ⟨v0, st, W1, W2, r1, r2, r3, r4, r5⟩ := h1.entry Tryd.underlying77 (zeroInt W) ok (.int .i64 v)
  refine ⟨v0, st, W1, W2, r1, r2, ⟨_, r3, fun q oq => ?_⟩, r4, r5⟩
  unfold updM upd
  by_cases e : q = k
  · rw [if_pos e, if_pos e]; rfl
  · rw [if_neg e, if_neg e]; exact h2 q oq
theorem BefAt.look {W : World} {M : Nat} {bef : Int × Int → Option Lk} (h : BefAt W M bef) {k : Int × Int} (ok : okN k) : (Instr.lookup 116 (.map (some M)) (nodeV k) false).run Tryd.prog W = .ok (lkV ((bef k).getD lk0)) W ∧
    (Instr.lookup 116 (.map (some M)) (nodeV k) true).run Tryd.prog W = .ok (.tuple #[lkV ((bef k).getD lk0), .bool (bef k).isSome]) W := by
  have := MapAt.look h Tryd.underlying116 (zeroLk W) ok
  cases hb : bef k <;> rw [hb] at this <;> exact this
theorem BefAt.put {W : World} {M : Nat} {bef : Int × Int → Option Lk} (h : BefAt W M bef) {k : Int × Int} (ok : okN k) (x : Lk) :
    ∃ W', (Instr.mapUpdate 116 (.map (some M)) (nodeV k) (lkV x)).run Tryd.prog W = .ok () W' ∧ BefAt W' M (upd bef k (some x)) ∧ W.grownBy W' (some M) := by
  obtain ⟨W', r1, r2, r3⟩ := MapAt.put h Tryd.underlying116 ok (lkV x)
  refine ⟨W', r1, r2.ext fun q _ => ?_, r3⟩
  unfold updM upd
  by_cases e : q = k
  · rw [if_pos e, if_pos e]; rfl
  · rw [if_neg e, if_neg e]
structure Good (x : Lk) : Prop where
  fr : okN x.fr
  to_ : okN x.to_
  wr : -1 ≤ x.wr ∧ x.wr ≤ 1
  room : -2000000 ≤ x.room ∧ x.room ≤ 2000000000000
  cell : -1 ≤ x.cell ∧ x.cell ≤ 1000
  sgn : -1 ≤ x.sgn ∧ x.sgn ≤ 1
theorem up_bd {n : Int} {r : Int × Int} (hn : 0 ≤ n ∧ n ≤ 125000) (hr : RgOk r) : (-1 ≤ upWr n r ∧ upWr n r ≤ 1) ∧ (-1 ≤ dnWr n r ∧ dnWr n r ≤ 1) ∧ (-2000000 ≤ upRm n r ∧ upRm n r ≤ 2000000000000) ∧ -2000000 ≤ dnRm n r ∧ dnRm n r ≤ 2000000000000 := by
  unfold RgOk at hr
  unfold upWr dnWr upRm dnRm
  refine ⟨?_, ?_, ?_, ?_⟩ <;> (repeat split) <;> omega
theorem ok_gate : okN gateN := by unfold okN gateN; simp
theorem ok_boom : okN boomN := by unfold okN boomN; simp
theorem ok_own {i : Nat} (h : i ≤ 1000) : okN (ownN' i) := by unfold okN ownN'; simp only; omega
theorem ok_pck {i : Nat} (h : i ≤ 1000) : okN (pckN i) := by unfold okN pckN; simp only; omega
theorem both_good {f t : Int × Int} {n : Int} {r : Int × Int} (hf : okN f) (ht : okN t) (hn : 0 ≤ n ∧ n ≤ 125000) (hr : RgOk r) : ∀ x ∈ bothL f t n r, Good x := by
  intro x hx
  obtain ⟨h1, h2, h3, h4⟩ := up_bd hn hr
  simp only [bothL, List.mem_cons, List.not_mem_nil, or_false] at hx
  rcases hx with rfl | rfl
  · exact ⟨hf, ht, h1, h3, by simp, by simp⟩
  · exact ⟨ht, hf, h2, h4, by simp, by simp⟩
theorem links_good {s : ShM} {t : List Int} (ht : TOk s t) : ∀ x ∈ linksL s.sh (tat t), Good x := by
  have h1 : ∀ k, k ≤ s.l0.length → ∀ x ∈ lkO s t k, Good x := fun k hk x hx => by
    obtain ⟨i, hi, hx⟩ := List.mem_flatMap.1 hx
    have hi := List.mem_range.1 hi
    have := ht.n5
    have := ht.own_bd' (o := i) (by omega)
    exact both_good ok_gate (ok_own (by omega)) (by omega) (ht.ro (by omega)) x hx
  have h2 : ∀ x ∈ lkP s t s.l1.length, Good x := fun x hx => by
    unfold lkP at hx
    rcases List.mem_append.1 hx with hx | hx
    · exact h1 _ (Nat.le_refl _) x hx
    · obtain ⟨i, hi, hx⟩ := List.mem_flatMap.1 hx
      have hi := List.mem_range.1 hi
      have := ht.m5
      have := ht.pck_bd hi
      exact both_good (ok_pck (by omega)) ok_boom (by omega) (ht.rp hi) x hx
  intro x hx
  rw [← lkA_is] at hx
  unfold lkA lkW at hx
  rcases List.mem_append.1 hx with hx | hx
  · rcases List.mem_append.1 hx with hx | hx
    · exact h2 x hx
    · exact both_good ok_boom ok_gate ht.all_bd ht.ra x hx
  · obtain ⟨i, hi, hx⟩ := List.mem_flatMap.1 hx
    have hi := List.mem_range.1 hi
    have hl := ht.l4
    have hit : i < t.length := by omega
    have hr := ht.rc hit
    have hb := ht.bd i hit
    have h25 := ht.l25
    have hq := ht.quo i hit
    have hm := ht.m5
    have hmod := Nat.mod_lt i (show 0 < s.l1.length by have := ht.m1; omega)
    obtain ⟨r0, r1, r2⟩ := hr
    simp only [lkC2, List.mem_cons, List.not_mem_nil, or_false] at hx
    rcases hx with rfl | rfl
    · exact ⟨ok_own (by omega), ok_pck (by omega), by simp, by simp only; omega, by simp only; omega, by simp⟩
    · exact ⟨ok_pck (by omega), ok_own (by omega), by simp, by simp only; omega, by simp only; omega, by simp⟩
theorem links_len {s : ShM} {t : List Int} (ht : TOk s t) : (linksL s.sh (tat t)).length ≤ 72 := by
  rw [← lkA_is, lkA_length, ht.l4]
  have := ht.n5; have := ht.m5; have := ht.l25
  omega
abbrev LkG := { x : Lk // Good x }
def liveG (L : List Lk) (h : ∀ x ∈ L, Good x) : List LkG := (L.filter fun x => decide (0 < x.room)).attach.map fun e => ⟨e.1, h e.1 (List.mem_filter.1 e.2).1⟩
theorem liveG_val (L : List Lk) (h : ∀ x ∈ L, Good x) : (liveG L h).map (fun x => x.1) = L.filter fun x => decide (0 < x.room) := by
  have : ∀ (K : List Lk) (hK : ∀ x ∈ K, Good x), (K.attach.map fun e => (⟨e.1, hK e.1 e.2⟩ : LkG)).map (fun x => x.1) = K := fun K hK => by
    refine (List.map_map (l := K.attach) (f := fun e => (⟨e.1, hK e.1 e.2⟩ : LkG)) (g := fun x : LkG => x.1)).trans ?_
    exact List.attach_map_subtype_val K
  exact this _ fun x hx => h x (List.mem_filter.1 hx).1
end Go.Proofs.YtcbhnhoicecnnaaDoor.Hand
namespace Go.Proofs.YtcbhnhoicecnnaaDoor.Hand
set_option linter.unusedVariables false
set_option linter.unusedSimpArgs false
open Go.RowKit Go.Shelf Go.Maps Go.Proofs.YtcbhnhoicecnnaaDoorW.PrintWords Go.Proofs.YtcbhnhoicecnnaaDoorW.PrintLast Go.Proofs.YtcbhnhoicecnnaaDoorW.PrintMore Go.Proofs.YtcbhnhoicecnnaaDoor.PrK
abbrev rlx := relax Lk.fr Lk.to_ Lk.wr
structure OkB (c : Int) (σ : Bf (Int × Int) Lk) : Prop where
  far : ∀ v, -c ≤ σ.far v ∧ σ.far v ≤ c
  bef : ∀ v x, σ.bef v = some x → Good x
  node : okN σ.at_
theorem OkB.mono {c d : Int} {σ : Bf (Int × Int) Lk} (h : OkB c σ) (hd : c ≤ d) : OkB d σ := ⟨fun v => by have := h.far v; omega, h.bef, h.node⟩
theorem OkB.relax {c : Int} {σ : Bf (Int × Int) Lk} {x : Lk} (h : OkB c σ) (hx : Good x) : OkB (c + 1) (rlx σ x) := by
  unfold rlx Hand.relax
  split
  · refine ⟨fun v => ?_, fun v y hy => ?_, hx.to_⟩
    · simp only [upd]
      have h1 := h.far x.fr
      have h2 := h.far v
      have h3 := hx.wr
      split <;> omega
    · simp only [upd] at hy
      split at hy
      · cases hy; exact hx
      · exact h.bef v y hy
  · exact h.mono (by omega)
theorem OkB.fold : ∀ (L : List Lk) {c : Int} {σ : Bf (Int × Int) Lk}, (∀ x ∈ L, Good x) → OkB c σ → OkB (c + L.length) (L.foldl rlx σ)
  | [], c, σ, _, h => h.mono (by simp)
  | x :: L, c, σ, hL, h => by
    have := OkB.fold L (fun y hy => hL y (by simp [hy])) (h.relax (hL x (by simp)))
    exact this.mono (by simp; omega)
theorem moved_le : ∀ (L : List Lk) (σ : Bf (Int × Int) Lk), (L.foldl rlx σ).moved ≤ σ.moved + L.length
  | [], σ => by simp
  | x :: L, σ => by
    have h1 := moved_le L (rlx σ x)
    have h2 : (rlx σ x).moved ≤ σ.moved + 1 := by
      unfold rlx relax
      split <;> simp
    rw [List.foldl_cons, List.length_cons]; omega
theorem rlx_yes {σ : Bf (Int × Int) Lk} {x : Lk} (h : σ.far x.fr + x.wr < σ.far x.to_) : rlx σ x = ⟨upd σ.far x.to_ (σ.far x.fr + x.wr), upd σ.bef x.to_ (some x), x.to_, σ.moved + 1⟩ := if_pos h
theorem rlx_no {σ : Bf (Int × Int) Lk} {x : Lk} (h : ¬ σ.far x.fr + x.wr < σ.far x.to_) : rlx σ x = σ := if_neg h
theorem ok_zero : okN (0, 0) := by unfold okN; simp
theorem OkB.back {c : Int} {σ : Bf (Int × Int) Lk} (h : OkB c σ) (v : Int × Int) : okN (back Lk.fr (0, 0) σ.bef v) := by
  unfold Hand.back
  cases hb : σ.bef v with
  | none => exact ok_zero
  | some x => exact (h.bef v x hb).fr
theorem OkB.backs {c : Int} {σ : Bf (Int × Int) Lk} (h : OkB c σ) {v : Int × Int} (hv : okN v) : ∀ k, okN (backs Lk.fr (0, 0) σ.bef v k)
  | 0 => hv
  | k + 1 => h.back _
theorem back_get (bef : Int × Int → Option Lk) (v : Int × Int) : ((bef v).getD lk0).fr = back Lk.fr (0, 0) bef v := by
  unfold back; cases bef v <;> rfl
theorem OkB.get {c : Int} {σ : Bf (Int × Int) Lk} (h : OkB c σ) (v : Int × Int) : Good ((σ.bef v).getD lk0) := by
  cases hb : σ.bef v with
  | none => exact ⟨ok_zero, ok_zero, by simp [lk0], by simp [lk0], by simp [lk0], by simp [lk0]⟩
  | some x => exact h.bef v x hb
theorem okb0 : OkB 0 bf0 := ⟨fun _ => by simp [bf0], fun _ _ h => by simp [bf0] at h, ok_zero⟩
theorem grown_set5 (w : World) (B o : Nat) (v : Value) : w.grownBy (w.setCell ⟨B, o, none⟩ v) (some B) :=
  ⟨rfl, rfl, rfl, by simp, fun k _ hk => Below.heap_setCell w ⟨B, o, none⟩ v k (fun e => hk (by rw [e]))⟩
theorem field_fr (W : World) (f1 f2 t1 t2 a b c d : Int) : (Instr.field 114 (.agg #[.int .i64 f1, .int .i64 f2, .int .i64 t1, .int .i64 t2, .int .i64 a, .int .i64 b, .int .i64 c, .int .i64 d]) 0).run Tryd.prog W = .ok (.agg #[.int .i64 f1, .int .i64 f2]) W := by
  kernel_rfl
theorem eql_node (W : World) (a b c d : Int) : (binOp .eql 92 (.agg #[.int .i64 a, .int .i64 b]) (.agg #[.int .i64 c, .int .i64 d])).run Tryd.prog W = .ok (.bool (decide (a = c) && decide (b = d))) W := by
  have hu1 := Tryd.underlying92
  go_simp
  by_cases h1 : a = c <;> by_cases h2 : b = d <;> simp [h1, h2]
def nodC (k : Int × Int) : Array Value := #[.int .i64 k.1, .int .i64 k.2]
def NodeAt (W : World) (b : Nat) (k : Int × Int) : Prop := W.heap[b]? = some (.cells (nodC k) 92 (0, 0))
section
variable {W W' : World} {b : Nat} {k : Int × Int}
theorem NodeAt.c0 (h : NodeAt W b k) : W.cell? ⟨b, 0, none⟩ = some (.int .i64 k.1) := by rw [cell_of_row W _ _ _ _ _ h]; rfl
theorem NodeAt.c1 (h : NodeAt W b k) : W.cell? ⟨b, 1, none⟩ = some (.int .i64 k.2) := by rw [cell_of_row W _ _ _ _ _ h]; rfl
theorem NodeAt.free (h : NodeAt W b k) (o : Nat) : W.frozen? ⟨b, o, none⟩ = false := frozen_of_row W _ o _ _ h
theorem NodeAt.of_heap (h : NodeAt W b k) (he : W'.heap[b]? = W.heap[b]?) : NodeAt W' b k := he.trans h
theorem NodeAt.set (h : NodeAt W b k) (q : Int × Int) : NodeAt ((W.setCell ⟨b, 0, none⟩ (.int .i64 q.1)).setCell ⟨b, 1, none⟩ (.int .i64 q.2)) b q := by
  have h1 := heap_setCell_same W b 0 _ _ (.int .i64 q.1) h
  exact heap_setCell_same _ b 1 _ _ (.int .i64 q.2) h1
end
theorem below_setB {n : Nat} {w W : World} (h : Below n w W) {p : Addr} (hp : n ≤ p.block) (v : Value) : Below n w (W.setCell p v) :=
  ⟨h.os, h.tape, h.output, by have := h.size; simp; omega, fun k hk => (Below.heap_setCell W p v k (fun e => by omega)).trans (h.block k hk)⟩
theorem BookAt.setF {W w00 : World} {B Tb : Nat} {s : ShM} {fv : Value} {t : List Int} (h : BookAt W B Tb s fv t) (hr : ShR w00 s) (hw : Below w00.heap.size w00 W) (hB : w00.heap.size ≤ B) (v : Value) : BookAt (W.setCell ⟨B, 6, none⟩ v) B Tb s v t :=
  ⟨heap_setCell_same W B 6 _ _ v h.box, heap_far h.tab h.ne v, h.ne, hr.below (below_setB hw hB v)⟩
theorem BookAt.of_heap {W W' w00 : World} {B Tb : Nat} {s : ShM} {fv : Value} {t : List Int} (h : BookAt W B Tb s fv t) (hB : W'.heap[B]? = W.heap[B]?) (hT : W'.heap[Tb]? = W.heap[Tb]?) (hr : ShR w00 s) (hw : Below w00.heap.size w00 W') : BookAt W' B Tb s fv t :=
  ⟨hB.trans h.box, hT.trans h.tab, h.ne, hr.below hw⟩
structure AtC (w : World) (B Tb b1 b3 b5 M Mb : Nat) (s : ShM) (t : List Int) (σ : Bf (Int × Int) Lk) (rs : List Nat) (W : World) : Prop where
  book : BookAt W B Tb s (.map (some M)) t
  hole : HoleL [B] w.heap.size w W
  c1 : W.cell? ⟨b1, 0, none⟩ = some (.pointer (some ⟨B, 0, none⟩))
  c3 : W.cell? ⟨b3, 0, none⟩ = some (.map (some Mb))
  a5 : NodeAt W b5 σ.at_
  far : FarAt W M σ.far
  bef : BefAt W Mb σ.bef
  nd : rs.Nodup
  marks : ∀ r ∈ rs, w.heap.size ≤ r ∧ W.heap[r]? = some (.deferred (some []))
structure NeC (w : World) (B Tb b1 b3 b5 M Mb : Nat) : Prop where
  B : B < w.heap.size
  T : Tb < w.heap.size
  l1 : w.heap.size ≤ b1
  l3 : w.heap.size ≤ b3
  l5 : w.heap.size ≤ b5
  lM : w.heap.size ≤ M
  lMb : w.heap.size ≤ Mb
  n15 : b1 ≠ b5
  n35 : b3 ≠ b5
  nMM : M ≠ Mb
  n1M : b1 ≠ M
  n1Mb : b1 ≠ Mb
  n3M : b3 ≠ M
  n3Mb : b3 ≠ Mb
  n5M : b5 ≠ M
  n5Mb : b5 ≠ Mb
theorem AtC.grow {w W W' : World} {B Tb b1 b3 b5 M Mb : Nat} {s : ShM} {t : List Int} {σ : Bf (Int × Int) Lk} {rs : List Nat} (h : AtC w B Tb b1 b3 b5 M Mb s t σ rs W) (hb : Below W.heap.size W W') : AtC w B Tb b1 b3 b5 M Mb s t σ rs W' :=
  ⟨h.book.below hb, h.hole.trans (HoleL.of_below hb (Nat.le_refl _)) h.hole.size, (hb.cell (cell_size h.c1)).trans h.c1, (hb.cell (cell_size h.c3)).trans h.c3, h.a5.of_heap (hb.block _ (heap_lt h.a5)), h.far.of_heap (hb.block _ h.far.lt),
    MapAt.of_heap h.bef (hb.block _ (MapAt.lt h.bef)), h.nd, fun r hr => ⟨(h.marks r hr).1, (hb.block _ (heap_lt (h.marks r hr).2)).trans (h.marks r hr).2⟩⟩
theorem zero_node : (Tryd.prog.info? 92).map (fun i => (i.zero, i.size)) = some (some (.agg (nodC (0, 0))), 2) := by kernel_rfl
def MarksOk (ds : List Deferred) (rs : List Nat) : Prop := ds = rs.map fun r => { target := .collected r, args := #[] }
theorem leaves_marks {fn : Func} {tmps : Array Value} {R : Ending → World → Prop} {n : Nat} (v : Value) : ∀ (rs : List Nat) (W : World), rs.Nodup → (∀ r ∈ rs, W.heap[r]? = some (.deferred (some []))) →
    (∀ W', (∀ k, k ∉ rs → W'.heap[k]? = W.heap[k]?) → W'.os = W.os → W'.tape = W.tape → W'.output = W.output → W'.heap.size = W.heap.size → (results fn tmps).run Tryd.prog W' = .ok v W' ∧ R (.returned v) W') →
    LeavesInM Fence.wide n Tryd.prog fn tmps R (rs.map fun r => { target := .collected r, args := #[] }) .returning W
  | [], W, _, _, h => by
    obtain ⟨h1, h2⟩ := h W (fun _ _ => rfl) rfl rfl rfl rfl
    exact ⟨_, h1, h2⟩
  | r :: rs, W, hd, hr, h => by
    obtain ⟨hd1, hd2⟩ := List.nodup_cons.1 hd
    have hr0 := hr r List.mem_cons_self
    have hlt : r < W.heap.size := heap_lt hr0
    refine ⟨by simp, .inl ⟨r, W.putObj r (.deferred none), rfl, run_takeDeferred hr0, leaves_marks v rs _ hd2 (fun r' h' => ?_) fun W' hk ho ht hu hs => ?_⟩⟩
    · rw [World.putObj_heap_other (fun e => hd1 (by subst e; exact h'))]
      exact hr r' (List.mem_cons_of_mem _ h')
    · refine h W' (fun k hk' => ?_) (ho.trans rfl) (ht.trans rfl) (hu.trans rfl) (hs.trans (by simp [World.putObj]))
      rw [hk k (fun h' => hk' (List.mem_cons_of_mem _ h')), World.putObj_heap_other (fun e => hk' (by subst e; exact List.mem_cons_self))]
theorem MapAt.obj {W : World} {M : Nat} {F : Int × Int → Option Value} (h : MapAt W M F) : ∃ es c, W.heap[M]? = some (.map es c) := by
  obtain ⟨es, c, hb, -⟩ := h.ex
  exact ⟨es, c, hb⟩
structure InC (W1 : World) (M Mb b5 b7 : Nat) (σ : Bf (Int × Int) Lk) (W : World) : Prop where
  far : FarAt W M σ.far
  bef : BefAt W Mb σ.bef
  a5 : NodeAt W b5 σ.at_
  a7 : W.heap[b7]? = some (.cells #[.int .i64 (σ.moved : Int)] 3 (0, 0))
  hole : HoleL [M, Mb, b5, b7] W1.heap.size W1 W
theorem InC.own {β : Type} {W1 : World} {M Mb b5 b7 : Nat} (hM : M < W1.heap.size) (hMb : Mb < W1.heap.size) (h5 : b5 < W1.heap.size) (h7 : b7 < W1.heap.size) (f : β → Bf (Int × Int) Lk) : OwnFrom W1.heap.size (fun (x : β) W => InC W1 M Mb b5 b7 (f x) W) := fun s X Y row hs hg hr => by
  have hb : ∀ k, k < W1.heap.size → Y.heap[k]? = X.heap[k]? := fun k hk => hg.block k (by have := hs.hole.size; omega) (fun e => by have := (hr k e.symm).1; omega)
  exact ⟨hs.far.of_heap (hb _ hM), MapAt.of_heap hs.bef (hb _ hMb), hs.a5.of_heap (hb _ h5), (hb _ h7).trans hs.a7, hole_own (β := Unit) W1 (Nat.le_refl _) (Nat.le_refl _) () X Y row hs.hole hg hr⟩
theorem InC.grow {W1 W W' : World} {M Mb b5 b7 : Nat} {σ : Bf (Int × Int) Lk} (h : InC W1 M Mb b5 b7 σ W) (hb : Below W.heap.size W W') : InC W1 M Mb b5 b7 σ W' :=
  ⟨h.far.of_heap (hb.block _ h.far.lt), MapAt.of_heap h.bef (hb.block _ (MapAt.lt h.bef)), h.a5.of_heap (hb.block _ (heap_lt h.a5)), (hb.block _ (heap_lt h.a7)).trans h.a7, h.hole.trans (HoleL.of_below hb (Nat.le_refl _)) h.hole.size⟩
theorem AtC.next {w W0 W1 W' w00 : World} {B Tb b1 b3 b5 b7 M Mb D : Nat} {s : ShM} {t : List Int} {σ σ' : Bf (Int × Int) Lk} {rs : List Nat} (h : AtC w B Tb b1 b3 b5 M Mb s t σ rs W0) (hb : Below W0.heap.size W0 W1) (h7 : W0.heap.size ≤ b7)
    (hi : InC W1 M Mb b5 b7 σ' W') (hn : NeC w B Tb b1 b3 b5 M Mb) (hr : ShR w00 s) (hw0 : Below w00.heap.size w00 w) (hwB : w00.heap.size ≤ B ∧ w00.heap.size ≤ Tb) (hD : W1.heap.size ≤ D) (hDm : W'.heap[D]? = some (.deferred (some []))) : AtC w B Tb b1 b3 b5 M Mb s t σ' (D :: rs) W' := by
  have hB := hn.B; have hT := hn.T; have l1 := hn.l1; have l3 := hn.l3; have l5 := hn.l5; have lM := hn.lM; have lMb := hn.lMb
  have hs := h.hole.size
  have hs1 := hb.size
  have hM : M < W0.heap.size := h.far.lt
  have hMb : Mb < W0.heap.size := MapAt.lt h.bef
  have h5 : b5 < W0.heap.size := heap_lt h.a5
  have hk : ∀ k, k < W0.heap.size → k ≠ M → k ≠ Mb → k ≠ b5 → W'.heap[k]? = W0.heap[k]? := fun k hk n1 n2 n3 =>
    (hi.hole.block k (by omega) (by simp only [List.mem_cons, List.not_mem_nil, or_false, not_or]; exact ⟨n1, n2, n3, by omega⟩)).trans (hb.block k hk)
  have hO : HoleL [B] w.heap.size w W' := by
    refine ⟨?_, ?_, ?_, ?_, fun k hk1 hk2 => (hk k (by omega) (by omega) (by omega) (by omega)).trans (h.hole.block k hk1 hk2)⟩
    · exact hi.hole.os.trans (hb.os.trans h.hole.os)
    · exact hi.hole.tape.trans (hb.tape.trans h.hole.tape)
    · exact hi.hole.output.trans (hb.output.trans h.hole.output)
    · have := hi.hole.size; omega
  have hc1 := h.c1
  have hc3 := h.c3
  have s1 := cell_size hc1
  have s3 := cell_size hc3
  simp only at s1 s3
  refine ⟨h.book.of_heap (hk B (by omega) (by omega) (by omega) (by omega)) (hk Tb (by omega) (by omega) (by omega) (by omega)) hr (hw0.trans (hO.below hw0.size (by simp; exact hwB.1))), hO, ?_, ?_, hi.a5, hi.far, hi.bef, ?_, ?_⟩
  · rw [World.cell?_of_block (w := W0) (hk b1 s1 hn.n1M hn.n1Mb hn.n15)]; exact hc1
  · rw [World.cell?_of_block (w := W0) (hk b3 s3 hn.n3M hn.n3Mb hn.n35)]; exact hc3
  · exact List.nodup_cons.2 ⟨fun hm => by have := heap_lt (h.marks D hm).2; omega, h.nd⟩
  · intro r hr
    rcases List.mem_cons.1 hr with rfl | hr
    · exact ⟨by omega, hDm⟩
    · obtain ⟨g1, g2⟩ := h.marks r hr
      refine ⟨g1, (hk r (heap_lt g2) ?_ ?_ ?_).trans g2⟩
      · rintro rfl
        obtain ⟨F, hF, -⟩ := h.far
        obtain ⟨es, c, ho⟩ := hF.obj
        rw [ho] at g2; cases g2
      · rintro rfl
        obtain ⟨es, c, ho⟩ := MapAt.obj h.bef
        rw [ho] at g2; cases g2
      · rintro rfl
        have := h.a5
        unfold NodeAt at this
        rw [this] at g2; cases g2
theorem AtC.leave {w V W' w00 : World} {B Tb b1 b3 b5 M Mb : Nat} {s : ShM} {t : List Int} {σ : Bf (Int × Int) Lk} {rs : List Nat} (h : AtC w B Tb b1 b3 b5 M Mb s t σ rs V) (hr : ShR w00 s) (hw0 : Below w00.heap.size w00 w) (hwB : w00.heap.size ≤ B ∧ w00.heap.size ≤ Tb)
    (hk : ∀ k, k ∉ rs → W'.heap[k]? = V.heap[k]?) (ho : W'.os = V.os) (ht : W'.tape = V.tape) (hu : W'.output = V.output) (hs : W'.heap.size = V.heap.size) :
    (∀ (k : Nat) (o : Obj), V.heap[k]? = some o → (∀ l, o ≠ Obj.deferred l) → W'.heap[k]? = some o) ∧ BookAt W' B Tb s (.map (some M)) t ∧ FarAt W' M σ.far ∧ HoleL [B] w.heap.size w W' := by
  have h1 : ∀ (k : Nat) (o : Obj), V.heap[k]? = some o → (∀ l, o ≠ Obj.deferred l) → W'.heap[k]? = some o := fun k o hv hn => (hk k (fun hm => by
    have := (h.marks k hm).2
    rw [this] at hv; cases hv; exact hn _ rfl)).trans hv
  have hO : HoleL [B] w.heap.size w W' := ⟨ho.trans h.hole.os, ht.trans h.hole.tape, hu.trans h.hole.output, by rw [hs]; exact h.hole.size, fun k hk1 hk2 => (hk k (fun hm => by have := (h.marks k hm).1; omega)).trans (h.hole.block k hk1 hk2)⟩
  have hb := h1 _ _ h.book.box (fun l e => by cases e)
  have ht := h1 _ _ h.book.tab (fun l e => by cases e)
  refine ⟨h1, ⟨hb, ht, h.book.ne, hr.below (hw0.trans (hO.below hw0.size (by simp; exact hwB.1)))⟩, ?_, hO⟩
  have hf := h.far
  obtain ⟨F, hF, hF2⟩ := h.far
  obtain ⟨es, c, hm⟩ := hF.obj
  exact hf.of_heap ((h1 _ _ hm (fun l e => by cases e)).trans hm.symm)
theorem AtC.node {w W V w00 : World} {B Tb b1 b3 b5 M Mb : Nat} {s : ShM} {t : List Int} {σ : Bf (Int × Int) Lk} {rs : List Nat} (h : AtC w B Tb b1 b3 b5 M Mb s t σ rs W) (hn : NeC w B Tb b1 b3 b5 M Mb) (hr : ShR w00 s) (hw0 : Below w00.heap.size w00 w) (hwB : w00.heap.size ≤ B ∧ w00.heap.size ≤ Tb)
    (hh : HoleL [b5] W.heap.size W V) {q : Int × Int} (hq : NodeAt V b5 q) : AtC w B Tb b1 b3 b5 M Mb s t ⟨σ.far, σ.bef, q, 0⟩ rs V := by
  have hk : ∀ k, k < W.heap.size → k ≠ b5 → V.heap[k]? = W.heap[k]? := fun k hk hne => hh.block k hk (by simpa using hne)
  have hB := hn.B; have hT := hn.T; have l5 := hn.l5
  have hO : HoleL [B] w.heap.size w V := ⟨hh.os.trans h.hole.os, hh.tape.trans h.hole.tape, hh.output.trans h.hole.output, Nat.le_trans h.hole.size hh.size, fun k hk1 hk2 => (hk k (by have := h.hole.size; omega) (by omega)).trans (h.hole.block k hk1 hk2)⟩
  refine ⟨h.book.of_heap (hk B (heap_lt h.book.box) (by omega)) (hk Tb (heap_lt h.book.tab) (by omega)) hr (hw0.trans (hO.below hw0.size (by simp; exact hwB.1))), hO, ?_, ?_, hq, h.far.of_heap (hk M h.far.lt (Ne.symm hn.n5M)), MapAt.of_heap h.bef (hk Mb (MapAt.lt h.bef) (Ne.symm hn.n5Mb)), h.nd, ?_⟩
  · rw [World.cell?_of_block (w := W) (hk b1 (cell_size h.c1) hn.n15)]; exact h.c1
  · rw [World.cell?_of_block (w := W) (hk b3 (cell_size h.c3) hn.n35)]; exact h.c3
  · intro r hr
    obtain ⟨g1, g2⟩ := h.marks r hr
    refine ⟨g1, (hk r (heap_lt g2) ?_).trans g2⟩
    rintro rfl
    have := h.a5
    unfold NodeAt at this
    rw [this] at g2; cases g2
theorem own_kept {w w' : World} {base n : Nat} {e : TypeId} {size : Nat} {v : Value} {xs : List Value} (h : w.ownsRow base e size v n xs) (hk : ∀ (k : Nat) (o : Obj), w.heap[k]? = some o → (∀ l, o ≠ Obj.deferred l) → w'.heap[k]? = some o) : w'.ownsRow base e size v n xs := by
  refine ⟨h.1, ?_⟩
  rcases h.2 with h2 | ⟨g, cap, cur, hv, hg, hh, hr⟩
  · exact .inl h2
  · exact .inr ⟨g, cap, cur, hv, hg, hk _ _ hh (fun l e => by cases e), hr⟩
theorem own_setFar {w : World} {base n : Nat} {e : TypeId} {size : Nat} {v : Value} {xs : List Value} {p : Addr} (h : w.ownsRow base e size v n xs) (hb : p.block < base) (u : Value) : (w.setCell p u).ownsRow base e size v n xs := by
  refine ⟨h.1, ?_⟩
  rcases h.2 with h2 | ⟨g, cap, cur, hv, hg, hh, hr⟩
  · exact .inl h2
  · exact .inr ⟨g, cap, cur, hv, hg, heap_far hh (by omega) u, hr⟩
theorem own_lks {w : World} {base n c : Nat} {e : TypeId} {A : Option Addr} {L : List Lk} (h : w.ownsRow base e 8 (.slice A n c) n (lksC L)) : L.length = n ∧ n ≤ c ∧ (A = none → n = 0 ∧ c = 0) ∧ ∀ b, A = some b → ∀ j u, (lksC L)[j]? = some u → w.cell? (b.add j) = some u := by
  have hl : L.length = n := by have := h.1; rw [lksC_length] at this; omega
  rcases h.2 with ⟨hv, hn⟩ | ⟨g, cap, cur, hv, hg, hh, h1, _, _, ht⟩
  · cases hv; exact ⟨hl, by omega, fun _ => ⟨rfl, rfl⟩, fun b e => by cases e⟩
  · cases hv
    refine ⟨hl, h1, fun e => (by cases e), fun b e j u hu => ?_⟩
    cases e
    rw [add_plain, cell_of_row w g j _ _ _ hh]
    rw [← ht, List.getElem?_take] at hu
    split at hu
    · simpa using hu
    · cases hu
theorem wp_push_lk {o : Oper} {a : Act} {w : World} {K : Act → World → Prop} {Q : Exit → Act → World → Prop} (hg : o.guard = none) (s x : Operand)
    (hop : o.op = Op.call { callee := Callee.builtin Builtin.append, args := #[s, x], argTypes := #[106, 106] }) (ao : Option Addr) (n : Nat) (out : List Lk) (y : Lk) (hs : a.eval s = .slice ao n n) (hl : out.length = n)
    (hnone : ao = none → n = 0) (hold : ∀ b, ao = some b → ∀ j u, (lksC out)[j]? = some u → w.cell? (b.add j) = some u) (ad : Addr) (hx : a.eval x = .slice (some ad) 1 1) (hc : ∀ j u, (lksC [y])[j]? = some u → w.cell? (ad.add j) = some u) (hmax : n < 1000)
    (hK : ∀ A c w', w'.ownsRow w.heap.size 114 8 (.slice A (n + 1) c) (n + 1) (lksC (out ++ [y])) → w.grownBy w' none → K (a.put o.dst (.slice A (n + 1) c)) w') : o.wp Tryd.prog a w K Q := by
  obtain ⟨il, hil, hl0, hl1, hl2⟩ := info_parts infoLk
  have := step_append_grows (P := Tryd.prog) (ops := #[]) (E := True) (o := o) (a := a) (w := w) (K := K) (Q := Q) hg s x 106 hop 114 il (lkV lk0) 8 64 Tryd.underlying106 hil hl0 hl1 hl2 rfl (by decide) ao n n (lksC out) hs
    (fun e => ⟨hnone e, hnone e⟩) (by rw [lksC_length, hl]) hold ad 1 1 (lksC [y]) hx (by rw [lksC_length]; rfl) hc (lks_one _) (by omega) (by unfold maxLen; omega) (by omega) (fun v' w' h1 h2 => by
      obtain ⟨A, c, rfl⟩ := own_opened h1
      exact hK A c w' (by rw [lksC_append]; exact h1) h2)
  rwa [if_pos (by simp [Region.wanted, hg])] at this
theorem wp_calm {P : Program} {c : Code} {K : Act → World → Prop} {Q : Exit → Act → World → Prop} {a : Act} {w : World} (h : c.wp P (Exit.then K (fun e a w => match e with | .panic _ => False | e => Q e a w)) a w) : c.wp P (Exit.then K Q) a w :=
  wp_mono h fun e a w hq => by
    cases e with
    | panic ch => exact hq.elim
    | normal => exact hq
    | exit id => exact hq
    | goto l => exact hq
    | ret => exact hq
    | outgrown => exact hq
theorem wp_back {K : Act → World → Prop} {Q : Exit → Act → World → Prop} {a : Act} {w : World} (h : K a w) : Exit.then K Q .normal a w := h
theorem search_zero {ls : List Lk} {σ : Bf (Int × Int) Lk} (h : (roundB Lk.fr Lk.to_ Lk.wr ls σ).moved = 0) : ∀ k, searchB Lk.fr Lk.to_ Lk.wr ls k σ = (true, roundB Lk.fr Lk.to_ Lk.wr ls σ)
  | 0 => by unfold searchB; rw [decide_eq_true h]
  | k + 1 => by unfold searchB; rw [if_pos h]
theorem search_last {ls : List Lk} {σ : Bf (Int × Int) Lk} (h : ¬ (roundB Lk.fr Lk.to_ Lk.wr ls σ).moved = 0) : searchB Lk.fr Lk.to_ Lk.wr ls 0 σ = (false, roundB Lk.fr Lk.to_ Lk.wr ls σ) := by unfold searchB; rw [decide_eq_false h]
theorem search_more {ls : List Lk} {σ : Bf (Int × Int) Lk} (h : ¬ (roundB Lk.fr Lk.to_ Lk.wr ls σ).moved = 0) (k : Nat) : searchB Lk.fr Lk.to_ Lk.wr ls (k + 1) σ = searchB Lk.fr Lk.to_ Lk.wr ls k (roundB Lk.fr Lk.to_ Lk.wr ls σ) := by rw [searchB, if_neg h]
theorem keepG_put {g : Nat} {W : World} {l : Nat} (o' : Obj) (h : g ≠ l) : KeepG g W (W.putObj l o') := ⟨World.putObj_heap_other h, by simp [World.putObj]⟩
theorem KeepG.of_hole {g n : Nat} {bs : List Nat} {W W' : World} (h : HoleL bs n W W') (hg : g < n) (hb : g ∉ bs) : KeepG g W W' := ⟨h.block g hg hb, h.size⟩
theorem keepsF_hole {n B : Nat} {bs : List Nat} {W W' : World} (h : HoleL bs n W W') (hn : n = W.heap.size) (hb : ∀ b ∈ bs, b < B) : KeepsFrom B W W' :=
  ⟨h.size, fun k o hB hk _ => (h.block k (by rw [hn]; exact heap_lt hk) (fun hm => by have := hb k hm; omega)).trans hk⟩
theorem row_open {w : World} {base : Nat} {e : TypeId} {v : Value} {L : List Lk} (h : w.ownsRow base e 8 v L.length (lksC L)) (hL : 0 < L.length) :
    ∃ g c cur, v = .slice (some ⟨g, 0, none⟩) L.length c ∧ base ≤ g ∧ w.heap[g]? = some (.cells cur e (0, 0)) ∧ cur.toList.take (L.length * 8) = lksC L := by
  rcases h.2 with ⟨_, h0⟩ | ⟨g, c, cur, hv, hb, hh, _, _, _, ht⟩
  · omega
  · exact ⟨g, c, cur, hv, hb, hh, ht⟩
end Go.Proofs.YtcbhnhoicecnnaaDoor.Hand

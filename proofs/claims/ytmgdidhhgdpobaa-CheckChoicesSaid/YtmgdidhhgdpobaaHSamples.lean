/- The function samples comes to a map from each number found to how many samples there are of this kind. -/
import Derived.Test.YtmgdidhhgdpobaaHUpTo
import Derived.Test.YtmgdidhhgdpobaaHKind
import Derived.StillTailTactics
import Derived.Carry
namespace Go.Proofs.Ytmgdidhhgdpobaa.Hand
open Go.RowKit Go.Maps

theorem zero_int64 (w : World) : (zeroValue 2).run Try.prog w = .ok (.int .i64 0) w := by kernel_rfl
/-- a map tells how many -/
def Tells (D : DataW Unit) (T : Int → Int) : Prop := ∀ x : Int, (Lit.int .i64 x).wf = true → D.atKey (kindKey x) (.lit (.int .i64 0)) = .lit (.int .i64 (T x))
def MapAt (W : World) (b n : Nat) (T : Int → Int) : Prop := ∃ D : DataW Unit, W.ownsMap Try.prog 88 (plainElem Try.prog 2) b n D ∧ Tells D T
theorem two_grown {W W' : World} {B w v b : Nat} (h : TwoAt W B w v) (hg : W.grownBy W' (some b)) (hb : b ≠ B ∧ b ≠ B + 1) : TwoAt W' B w v :=
  ⟨(hg.block _ (heap_lt h.1) (fun e => hb.1 (Option.some.inj e).symm)).trans h.1, (hg.block _ (heap_lt h.2) (fun e => hb.2 (Option.some.inj e).symm)).trans h.2⟩
/-- of how many kinds it is told so far -/
def kinds (w v s k : Nat) : Int → Int := fun x => if 0 ≤ x ∧ x < k then ((binom w x.toNat * binom v (s - x.toNat) : Nat) : Int) else 0
theorem kinds_zero (w v s : Nat) (x : Int) : kinds w v s 0 x = 0 := by simp only [kinds]; rw [if_neg (by omega)]
theorem kinds_at (w v s k : Nat) (h : k ≤ s) : kinds w v s (s + 1) k = ((binom w k * binom v (s - k) : Nat) : Int) := by
  simp only [kinds]; rw [if_pos (by omega), Int.toNat_natCast]
theorem tells_empty (w v s : Nat) : Tells (.map []) (kinds w v s 0) := fun x _ => by rw [kinds_zero]; rfl
theorem wf_nat (k : Nat) (h : k ≤ 9223372036854775807) : (Lit.int .i64 (k : Int)).wf = true := WalkArith.wf_i64 (by omega)
theorem tells_put {D : DataW Unit} {w v s k : Nat} (hD : IsMap D) (hk : k ≤ 50) (h : Tells D (kinds w v s k)) :
    Tells (D.put (kindKey k) (.lit (.int .i64 ((binom w k * binom v (s - k) : Nat) : Int)))) (kinds w v s (k + 1)) := by
  intro x hx
  by_cases e : x = k
  · subst e
    rw [atKey_put_same hD (kindKey_is _ hx)]
    simp only [kinds]
    rw [if_pos (by omega), Int.toNat_natCast]
  · rw [atKey_put_other (fun h' => e (kindKey_inj hx (wf_nat k (by omega)) h')), h x hx]
    simp only [kinds]
    by_cases h1 : 0 ≤ x ∧ x < k
    · rw [if_pos h1, if_pos (by omega)]
    · rw [if_neg h1, if_neg (by omega)]
theorem tells_del {D : DataW Unit} {T : Int → Int} {x : Int} (hx : (Lit.int .i64 x).wf = true) (h : Tells D T) (h0 : T x = 0) : Tells (D.del (kindKey x)) T := by
  intro y hy
  by_cases e : y = x
  · subst e; rw [atKey_del_same, h0]
  · rw [atKey_del_other (fun h' => e (kindKey_inj hy hx h')), h y hy]

theorem row_ne (w : Nat) (W : World) : (binOp .eql 82 (.agg (cellsOf (rowF w))) (.agg (cellsOf fun _ => 0))).run Try.prog W = .ok (.bool false) W := by
  rw [run_eql_array W row_under Try.underlying2 row_cells _ _ (rowF w) (fun _ => 0) (fun i hi => cellsOf_get _ _ hi) (fun i hi => cellsOf_get _ _ hi)]
  have : ((List.range 51).all fun i => rowF w i == 0) = false := by
    rw [List.all_eq_false]
    exact ⟨0, by simp, by simp [rowF, binom_zero]⟩
  rw [this]

theorem built_row : Try.prog.built 82 [] = some (cellsOf fun _ => 0) := by kernel_rfl

set_option maxHeartbeats 2000000 in
set_option maxRecDepth 100000 in
theorem samples_any (a w s : Nat) (hw : w ≤ a) (ha : a ≤ 50) (hs : s ≤ a) (W : World) :
    Calls Try.prog 62 #[.int .i64 a, .int .i64 w, .int .i64 s] W fun e W' => (∃ b n, e = .returned (.map (some b)) ∧ MapAt W' b n (kinds w (a - w) s (s + 1))) ∧ Below W.heap.size W W' := by
  obtain ⟨hz, hsz⟩ := zero_of_info zero_row
  have HS := Lib.hid hsz
  clear hsz
  have hmm := @run_makeMap Try.prog
  have hne := row_ne w
  have hbd : ∀ W : World, (Instr.build 82 #[]).run Try.prog W = .ok (.agg (cellsOf fun _ => 0)) W := fun W => run_build W _ _ _ built_row
  go_enter Try.func62, Try.ntmps62
  go_wp2_with fail
  refine (choices_int _ (by omega) (by omega) _).mono ?_
  rintro e W1 ⟨rfl, hb1⟩
  go_wp2_with fail
  refine (choices_int _ (by omega) (by omega) _).mono ?_
  rintro e W2 ⟨rfl, hb2⟩
  have e2 : ((a : Int) - (w : Int)).toNat = a - w := by omega
  rw [e2]
  have hb := hb1.trans (hb2.mono hb1.size)
  have HB := Lib.hid hb
  clear hb1 hb2 hb e2
  have g1 := heap_past (heap_alloc_last W2 (.cells (cellsOf fun _ => 0) 82)) (.cells (cellsOf fun _ => 0) 82)
  have g2 := heap_alloc_last (W2.alloc (.cells (cellsOf fun _ => 0) 82)) (.cells (cellsOf fun _ => 0) 82)
  rw [World.size_alloc] at g2
  have g3 := heap_farRow g2 (b := W2.heap.size) (by omega) (cellsOf (rowF w))
  have hT := two_made W2 w (a - w) (cellsOf fun _ => 0) (cellsOf fun _ => 0)
  have hBB := below_setRow (below_setRow ((HB.out.alloc HB.out.size (.cells (cellsOf fun _ => 0) 82)).alloc (by have := HB.out.size; simp; omega) (.cells (cellsOf fun _ => 0) 82)) (g := W2.heap.size) HB.out.size (cellsOf (rowF w))) (g := W2.heap.size + 1) (by have := HB.out.size; omega) (cellsOf (rowF (a - w)))
  have HT := Lib.hid (And.intro hT hBB)
  clear hT hBB g2
  have g7 := heap_past HT.out.1.1 (.map #[] 0)
  have hn0 : ((s : Int) > (a : Int)) = False := by simp; omega
  have hl0 : (s : Int) ≤ (a : Int) := by omega
  go_wp2_with (first | ((with_reducible refine wpList_store_rowTo ?_ 82 (.tmp 7) (.tmp 14) ?_ ?_ W2.heap.size (cellsOf (rowF w)) ?_ ?_ 82 _ g1 ?_ ?_ (cellsOf_one _) ?_); rfl; rfl; rfl; rfl; rfl; exact HS.out; rfl) | ((with_reducible refine wpList_store_rowTo ?_ 82 (.tmp 8) (.tmp 18) ?_ ?_ (W2.heap.size + 1) (cellsOf (rowF (a - w))) ?_ ?_ 82 _ g3 ?_ ?_ (cellsOf_one _) ?_); rfl; rfl; rfl; rfl; rfl; exact HS.out; rfl) | ((with_reducible refine wpList_load_row ?_ 82 (.tmp 7) ?_ W2.heap.size ?_ 82 (cellsOf (rowF w)) (0, 0) _ g7 row_under ?_ ?_ ?_); rfl; rfl; rfl; rfl; exact HS.out))
  have hM0 : MapAt (((((W2.alloc (.cells (cellsOf fun _ => 0) 82)).alloc (.cells (cellsOf fun _ => 0) 82)).setRow W2.heap.size (cellsOf (rowF w))).setRow (W2.heap.size + 1) (cellsOf (rowF (a - w)))).alloc (.map #[] 0)) (W2.heap.size + 1 + 1) 0 (kinds w (a - w) s 0) := by
    have := World.ownsMap_made (H := Unit) ((((W2.alloc (.cells (cellsOf fun _ => 0) 82)).alloc (.cells (cellsOf fun _ => 0) 82)).setRow W2.heap.size (cellsOf (rowF w))).setRow (W2.heap.size + 1) (cellsOf (rowF (a - w)))) Try.prog 88 (plainElem Try.prog 2)
    rw [setRow_size, setRow_size, World.size_alloc, World.size_alloc] at this
    exact ⟨_, this, tells_empty _ _ _⟩
  have HM0 := Lib.hid hM0
  clear hM0 g1 g3 g7 hne hbd hmm hn0
  go_loopw [31] (fun j wr => ∃ k : Nat, k ≤ s + 1 ∧ j = .int .i64 k ∧ Hid (TwoAt wr W2.heap.size w (a - w) ∧ MapAt wr (W2.heap.size + 1 + 1) k (kinds w (a - w) s k) ∧ Below W.heap.size W wr)) (fun j _ => 60 - (intOf j).toNat)
  case atStart => exact ⟨0, by omega, rfl, ⟨heap_past HT.out.1.1 _, heap_past HT.out.1.2 _⟩, HM0.out, HT.out.2.alloc (by have := HB.out.size; simp; omega) _⟩
  case round =>
    obtain ⟨k, hk, rfl, HR⟩ := hrel
    by_cases hlt : k < s + 1
    · have hm := term_le w (a - w) s k (by omega)
      have hbb := binom_le50 (w + (a - w)) s (by omega)
      have c1 : wr.cell? ⟨W2.heap.size, k, none⟩ = some (.int .i64 (binom w k)) := by rw [cell_of_row wr _ k _ _ _ HR.out.1.1]; exact cellsOf_get _ _ (by omega)
      have c2 : wr.cell? ⟨W2.heap.size + 1, s - k, none⟩ = some (.int .i64 (binom (a - w) (s - k))) := by rw [cell_of_row wr _ (s - k) _ _ _ HR.out.1.2]; exact cellsOf_get _ _ (by omega)
      obtain ⟨D, hown, htell⟩ := HR.out.2.1
      have hput := tells_put hown.isMap (by omega) htell
      obtain ⟨x, hx⟩ : ∃ x : Nat, x = binom w k := ⟨_, rfl⟩
      obtain ⟨y, hy⟩ : ∃ y : Nat, y = binom (a - w) (s - k) := ⟨_, rfl⟩
      rw [← hx, ← hy] at hm hput
      rw [← hx] at c1
      rw [← hy] at c2
      obtain ⟨z, hz'⟩ : ∃ z : Nat, z = x * y := ⟨_, rfl⟩
      have hzi : (x : Int) * (y : Int) = (z : Int) := by rw [hz', Int.natCast_mul]
      rw [← hz'] at hm hput
      have hl : (k : Int) < (s : Int) + 1 := by omega
      have x1 : IntKind.i64.wrap ((s : Int) - (k : Int)) = ((s - k : Nat) : Int) := by rw [IntWalk.i64_in _ (by omega)]; omega
      have x2 : IntKind.i64.wrap ((x : Int) * (y : Int)) = (z : Int) := by rw [hzi]; exact IntWalk.i64_in _ (by omega)
      have n1 : ((s - k : Nat) : Int) < 51 := by omega
      have n2 : (k : Int) < 51 := by omega
      have q1 : (z : Int) ≤ 1125899906842624 := by omega
      have HP := Lib.hid (And.intro hown hput)
      clear hown htell hput hx hy hz' hm hbb hzi
      go_wp2
      go_still_tail 12, (by kernel_rfl)
      refine wpList_mapUpdate_own _ rfl _ _ _ 85 rfl 88 2 kind_law Try.underlying85 _ _ k _ rfl (World.ownsMap.drew HP.out.1) (by unfold maxLen; omega) _ _ _ rfl rfl (kind_key (wf_nat k (by omega))) _ [] (plainElem_int Try.underlying2 (WalkArith.wf_i64 (by omega))) ?_
      intro V1 hown1 hgrow1
      have H1 := Lib.hid (And.intro hown1 hgrow1)
      clear hown1 hgrow1 x1 x2
      go_wp2
      go_roundw
      case rel => exact ⟨k + 1, by omega, by go_num, two_grown (W := wr.drew) (b := W2.heap.size + 1 + 1) HR.out.1 H1.out.2 ⟨by omega, by omega⟩, ⟨_, H1.out.1, HP.out.2⟩, HR.out.2.2.drew.grown H1.out.2 HR.out.2.2.size (fun j e => by cases e; have := HB.out.size; omega)⟩
      case measure => simp [intOf]; omega
    · have hl : ¬ (k : Int) < (s : Int) + 1 := by omega
      have hke : k = s + 1 := by omega
      have hM1 := HR.out.2.1
      rw [show kinds w (a - w) s k = kinds w (a - w) s (s + 1) by rw [hke]] at hM1
      clear hke hlt
      obtain ⟨D, hown, htell⟩ := hM1
      have HTL := Lib.hid htell
      clear htell
      obtain ⟨wo, rfl⟩ : ∃ wo : World, wo = wr := ⟨_, rfl⟩
      have hne := (heap_lt HR.out.1.2)
      go_wp2_with (first | (at_range; refine wpList_range_own _ rfl _ 85 rfl 88 2 kind_law Try.underlying85 _ (W2.heap.size + 1 + 1) k _ rfl hown ?_; intro V0 hrg0 hg0 hs0))
      have HG := Lib.hid (And.intro hrg0 hg0)
      clear hrg0 hg0 hs0 hown
      go_loopw [12] (fun _ wr => ∃ (D : DataW Unit) (left : Lit → Bool) (cnt : Nat), Hid (wr.ranges Try.prog 88 (plainElem Try.prog 2) (W2.heap.size + 1 + 1) wo.heap.size k D left cnt ∧ Tells D (kinds w (a - w) s (s + 1)) ∧ Below W.heap.size W wr)) (fun _ wr => wr.rangeLeft (W2.heap.size + 1 + 1) wo.heap.size)
      case atStart => exact ⟨_, _, _, HG.out.1, HTL.out, HR.out.2.2.grown HG.out.2 HR.out.2.2.size (fun j e => by cases e)⟩
      case round =>
        obtain ⟨D1, left, cnt, HL⟩ := hrel
        have hrg := HL.out.1
        go_wp2_with (first | (at_next; refine wpList_next_ranges _ rfl _ rfl 88 kind_law (plainElem Try.prog 2) (fun x : Int => .agg #[.int .i64 x]) (Value.int .i64) (fun key kl hk => by obtain ⟨x, hx, _⟩ := kind_inv hk; exact ⟨x, hx⟩) (fun v y hv => by obtain ⟨c, hc, _⟩ := plainElem_int_inv Try.underlying2 hv; exact ⟨c, hc⟩) (W2.heap.size + 1 + 1) wo.heap.size k _ _ _ rfl hrg ?_ ?_))
        · intro _ _
          clear hrg
          go_wp2
          go_ret
          exact ⟨⟨_, _, rfl, _, HL.out.1.owns, HL.out.2.1⟩, HL.out.2.2⟩
        · intro x c kl y yp V2 cnt2 hkey hlk hval hat hrg1 hlt1 hg1 hs1 hen
          obtain ⟨x', ex, hwx, rfl⟩ := kind_inv hkey
          obtain rfl : x = x' := by simpa using ex
          obtain ⟨c', ec, hy, _⟩ := plainElem_int_inv Try.underlying2 hval
          obtain rfl : c = c' := by simpa using ec
          obtain ⟨rfl, rfl⟩ := Prod.mk.inj hy
          have hT : kinds w (a - w) s (s + 1) x = c := by
            have h1 := HL.out.2.1 x hwx
            rw [hat] at h1
            simpa using h1.symm
          have hg2 := HL.out.2.2.grown hg1 HL.out.2.2.size (fun j e => by cases e; exact HR.out.2.2.size)
          have HX := Lib.hid (And.intro hrg1 (And.intro hlt1 (And.intro hg2 hT)))
          have HWX := Lib.hid hwx
          clear hrg1 hlt1 hg2 hT hg1 hs1 hat hkey hval hwx ex ec hrg hlk
          cases hc : c == 0
          · have HC := Lib.hid hc
            go_wp2
            go_roundw
            case rel => exact ⟨D1, _, _, HX.out.1.alloc _, HL.out.2.1, HX.out.2.2.1.alloc HX.out.2.2.1.size _⟩
            case measure => rw [(HX.out.1.alloc _).left_eq, HL.out.1.left_eq]; exact HX.out.2.1
          · have HC := Lib.hid hc
            have hrg2 := HX.out.1.alloc (.cells #[.int .i64 x] 88)
            go_wp2_with (first | (at_delete; refine wpList_delete_ranges _ rfl _ _ 85 88 rfl 2 kind_law Try.underlying85 _ (W2.heap.size + 1 + 1) wo.heap.size k _ _ _ rfl hrg2 _ _ rfl (kind_key HWX.out) ?_; intro V3 cnt3 hrg3 hle3 hturn; have H3 := Lib.hid (And.intro hrg3 (And.intro hle3 hturn)); clear hrg3 hle3 hturn))
            go_roundw
            case rel => exact ⟨_, _, _, H3.out.1, tells_del HWX.out HL.out.2.1 (by rw [HX.out.2.2.2]; simpa using HC.out), (HX.out.2.2.1.alloc HX.out.2.2.1.size _).grown H3.out.2.2.grown (by have := HX.out.2.2.1.size; simp; omega) (fun j e => by cases e; have := HB.out.size; omega)⟩
            case measure => rw [H3.out.1.left_eq, HL.out.1.left_eq]; have := H3.out.2.1; have := HX.out.2.1; omega
end Go.Proofs.Ytmgdidhhgdpobaa.Hand

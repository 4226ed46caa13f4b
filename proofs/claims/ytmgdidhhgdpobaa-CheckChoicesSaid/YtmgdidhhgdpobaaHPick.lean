/- The first right plan of a list. -/
import Derived.Test.YtmgdidhhgdpobaaHPlan
namespace Go.Proofs.Ytmgdidhhgdpobaa.Hand
open Go.RowKit Go.Maps Go.Proofs.YtmgdidhhgdpobaaW.PrintWords Go.Proofs.YtmgdidhhgdpobaaW.PrintLast Go.Proofs.YtmgdidhhgdpobaaW.PrintMore Go.Proofs.Ytmgdidhhgdpobaa.PrA

/-- the first plan that is right, the last one if none is -/
def pickN (p : Int × Int → Bool) : List (Int × Int) → Int × Int
  | [] => (0, 0)
  | [x] => x
  | x :: y :: l => if p x then x else pickN p (y :: l)

theorem pick_mid (p : Int × Int → Bool) : ∀ (pre : List (Int × Int)) (x : Int × Int) (l : List (Int × Int)), (∀ y ∈ pre, p y = false) → p x = true → pickN p (pre ++ x :: l) = x
  | [], x, [], _, _ => rfl
  | [], x, y :: l, _, h => by simp [pickN, h]
  | [z], x, l, h1, h2 => by
    have := h1 z (by simp)
    have h3 := pick_mid p [] x l (by simp) h2
    simp only [List.nil_append] at h3
    simp only [List.cons_append, List.nil_append, pickN, this, Bool.false_eq_true, if_false]
    exact h3
  | z :: z' :: pre, x, l, h1, h2 => by
    have := h1 z (by simp)
    have h3 := pick_mid p (z' :: pre) x l (fun y hy => h1 y (List.mem_cons_of_mem _ hy)) h2
    simp only [List.cons_append] at h3 ⊢
    simp only [pickN, this, Bool.false_eq_true, if_false]
    exact h3
theorem pick_none (p : Int × Int → Bool) : ∀ (l : List (Int × Int)) (h : l ≠ []), (∀ y ∈ l, p y = false) → pickN p l = l.getLast h
  | [], h, _ => absurd rfl h
  | [x], _, _ => rfl
  | x :: y :: l, _, h1 => by
    have h3 := pick_none p (y :: l) (by simp) (fun z hz => h1 z (List.mem_cons_of_mem _ hz))
    rw [List.getLast_cons (by simp), ← h3]
    simp [pickN, h1 x (by simp)]

set_option maxHeartbeats 4000000 in
set_option maxRecDepth 100000 in
theorem first_any (b g cap : Nat) (a0 a1 a2 a3 a4 a5 a6 : Int) (l : List (Int × Int)) (w : World) (hB : BenchAt w b a0 a1 a2 a3 a4 a5 a6) (ha : a0 ≤ 50) (h1 : 0 ≤ a1) (h2 : a1 ≤ a0) (h3 : 0 ≤ a2) (h4 : a2 ≤ a0)
    (hl : l ≠ []) (hln : l.length ≤ 5000) (hc : l.length ≤ cap) (hok : ∀ x ∈ l, planOk a0 x.1 x.2 = true)
    (hr : ∀ j (x : Int × Int), l[j]? = some x → w.cell? ⟨g, j * 2, none⟩ = some (.int .i64 x.1) ∧ w.cell? ⟨g, j * 2 + 1, none⟩ = some (.int .i64 x.2)) :
    Calls Try.prog 75 #[.slice (some ⟨g, 0, none⟩) l.length cap, .func (.func 74) #[.pointer (some ⟨b, 0, none⟩)] #[]] w
      fun e w' => e = .returned (.agg #[.int .i64 (pickN (fun x => rightB a0 a1 a2 a3 a4 a5 a6 x.1 x.2) l).1, .int .i64 (pickN (fun x => rightB a0 a1 a2 a3 a4 a5 a6 x.1 x.2) l).2]) ∧ Below w.heap.size w w' := by
  have hbs := cell_size hB.1
  have hpos : 0 < l.length := List.length_pos_iff.2 hl
  have hgs : g < w.heap.size := by
    have := (hr 0 l[0] (by simp [hpos])).1
    exact cell_size this
  have HB := Lib.hid hB
  have HR := Lib.hid hr
  have HOK := Lib.hid hok
  have hu48 := Try.underlying48
  clear hB hr hok
  go_enter Try.func75, Try.ntmps75
  go_wp2
  go_loopw [9] (fun i wr => ∃ k : Nat, k ≤ l.length ∧ i = .int .i64 k ∧ Hid ((∀ y ∈ l.take k, rightB a0 a1 a2 a3 a4 a5 a6 y.1 y.2 = false) ∧ Below (w.alloc (.cells #[.int .i64 0, .int .i64 0] 48)).heap.size (w.alloc (.cells #[.int .i64 0, .int .i64 0] 48)) wr)) (fun i _ => l.length - (intOf i).toNat)
  case atStart => exact ⟨0, Nat.zero_le _, rfl, Lib.hid ⟨by simp, Below.refl _ _⟩⟩
  case round =>
    obtain ⟨k, hk, rfl, HI⟩ := hrel
    have hbw : Below w.heap.size w wr := ((Below.refl _ _).alloc (Nat.le_refl _) _).trans (HI.out.2.mono (by simp))
    by_cases hlt : k < l.length
    · have hx := HR.out k l[k] (by simp [hlt])
      obtain ⟨x, hxe⟩ : ∃ x, x = l[k] := ⟨_, rfl⟩
      rw [← hxe] at hx
      obtain ⟨x0, x1⟩ := hx
      rw [← hbw.cell (by exact hgs)] at x0 x1
      have HBW := Lib.hid hbw
      clear hbw
      have HE := Lib.hid hxe
      clear hxe
      have hb2 : BenchAt wr b a0 a1 a2 a3 a4 a5 a6 := bench_below HB.out HBW.out hbs
      have hbn : Below wr.heap.size wr (wr.alloc (.cells #[.int .i64 x.1, .int .i64 x.2] 48)) := (Below.refl _ _).alloc (Nat.le_refl _) _
      have hpo := plan_in (HOK.out x (by rw [HE.out]; exact List.getElem_mem hlt))
      have hbr := Nat.lt_of_lt_of_le hbs HBW.out.size
      have HC := Lib.hid (right_any b a0 a1 a2 a3 a4 a5 a6 x.1 x.2 _ (bench_below hb2 hbn hbr) ha h1 h2 h3 h4 (by omega) (by omega) (by omega) (by omega))
      have HBN := Lib.hid hbn
      clear hb2 hbn hpo hbr
      obtain ⟨xa, xb⟩ := x
      dsimp only at x0 x1 HC HBN
      cases hq : rightB a0 a1 a2 a3 a4 a5 a6 xa xb
      · have HQ := Lib.hid hq
        rw [hq] at HC
        clear hq
        go_wp2_with fail
        refine HC.out.mono ?_
        rintro e w2 ⟨rfl, hw2⟩
        have HW2 := Lib.hid hw2
        clear hw2
        go_wp2
        go_roundw
        case rel => exact ⟨k + 1, by omega, by go_num, Lib.hid ⟨by
          intro y hy
          rw [List.take_succ_eq_append_getElem hlt, List.mem_append] at hy
          rcases hy with hy | hy
          · exact HI.out.1 y hy
          · rw [← HE.out] at hy
            obtain rfl := List.mem_singleton.1 hy
            exact HQ.out, HI.out.2.trans ((HBN.out.mono HI.out.2.size).trans (HW2.out.mono (Nat.le_trans HI.out.2.size (Nat.le_trans HBN.out.size (Nat.le_refl _)))))⟩⟩
        case measure => simp [intOf]; omega
      · have HQ := Lib.hid hq
        rw [hq] at HC
        clear hq
        go_wp2_with fail
        refine HC.out.mono ?_
        rintro e w2 ⟨rfl, hw2⟩
        have HW2 := Lib.hid hw2
        clear hw2
        have e0 : w2.cell? ⟨wr.heap.size, 0, none⟩ = some (.int .i64 xa) := by rw [HW2.out.cell (by simp)]; simp
        have e1 : w2.cell? ⟨wr.heap.size, 1, none⟩ = some (.int .i64 xb) := by rw [HW2.out.cell (by simp)]; simp
        have hbb := HI.out.2.trans ((HBN.out.mono HI.out.2.size).trans (HW2.out.mono (Nat.le_trans HI.out.2.size HBN.out.size)))
        have c1 : w2.cell? ⟨w.heap.size, 0, none⟩ = some (.int .i64 0) := by rw [hbb.cell (by simp)]; simp
        have c2 : w2.cell? ⟨w.heap.size, 1, none⟩ = some (.int .i64 0) := by rw [hbb.cell (by simp)]; simp
        have f1 : w2.frozen? ⟨w.heap.size, 0, none⟩ = false := by rw [hbb.frozen (by simp)]; simp
        have f2 : w2.frozen? ⟨w.heap.size, 1, none⟩ = false := by rw [hbb.frozen (by simp)]; simp
        have HBB := Lib.hid hbb
        have hpk : pickN (fun x => rightB a0 a1 a2 a3 a4 a5 a6 x.1 x.2) l = (xa, xb) := by
          have h5 : l = l.take k ++ (xa, xb) :: l.drop (k + 1) := by rw [HE.out, List.getElem_cons_drop, List.take_append_drop]
          rw [h5]
          exact pick_mid _ _ _ _ HI.out.1 HQ.out
        have HPK := Lib.hid hpk
        clear hbb hpk
        go_wp2
        refine bodyPost_ret (v := .agg #[.int .i64 xa, .int .i64 xb]) (by simp [results, Try.results75, go_sem, c1, c2]) rfl ⟨by rw [HPK.out], ?_⟩
        exact ((((Below.refl _ _).alloc (Nat.le_refl _) _).trans (HBB.out.mono (by simp))).setCell (by simp) _).setCell (by simp) _
    · have hke : k = l.length := by omega
      subst hke
      have hm : 0 < l.length := hpos
      obtain ⟨m, hmm⟩ : ∃ m, m + 1 = l.length := ⟨l.length - 1, by omega⟩
      have hx := HR.out m l[m] (by simp)
      obtain ⟨x, hxe⟩ : ∃ x, x = l[m] := ⟨_, rfl⟩
      rw [← hxe] at hx
      obtain ⟨x0, x1⟩ := hx
      rw [← hbw.cell (by exact hgs)] at x0 x1
      obtain ⟨xa, xb⟩ := x
      dsimp only at x0 x1
      have hpk : pickN (fun x => rightB a0 a1 a2 a3 a4 a5 a6 x.1 x.2) l = (xa, xb) := by
        rw [pick_none _ l hl (fun y hy => HI.out.1 y (by rw [List.take_length]; exact hy)), List.getLast_eq_getElem, hxe]
        congr 1
        omega
      have HPK := Lib.hid hpk
      have hbb := HI.out.2
      have c1 : wr.cell? ⟨w.heap.size, 0, none⟩ = some (.int .i64 0) := by rw [hbb.cell (by simp)]; simp
      have c2 : wr.cell? ⟨w.heap.size, 1, none⟩ = some (.int .i64 0) := by rw [hbb.cell (by simp)]; simp
      have f1 : wr.frozen? ⟨w.heap.size, 0, none⟩ = false := by rw [hbb.frozen (by simp)]; simp
      have f2 : wr.frozen? ⟨w.heap.size, 1, none⟩ = false := by rw [hbb.frozen (by simp)]; simp
      have HBB := Lib.hid hbb
      have HL := Lib.hid hxe
      clear hbb hpk hxe hbw hl
      have hln1 : (l.length : Int) - 1 = (m : Int) := by omega
      go_wp2
      refine bodyPost_ret (v := .agg #[.int .i64 xa, .int .i64 xb]) (by simp [results, Try.results75, go_sem, c1, c2]) rfl ⟨by rw [HPK.out], ?_⟩
      exact ((((Below.refl _ _).alloc (Nat.le_refl _) _).trans (HBB.out.mono (by simp))).setCell (by simp) _).setCell (by simp) _
end Go.Proofs.Ytmgdidhhgdpobaa.Hand

/- Texts of the session's, joined: what HWorks, HRow names of them, in build order (joined and cut by a program of the session's). -/
import Derived.Test.YtcbhnhoicecnnaaDoorZD3
import Derived.Laws.CopyRow
import Derived.Laws.Cover3
import Derived.Laws.MakeOwn
set_option linter.unusedVariables false
set_option linter.unusedSimpArgs false
namespace Go.Proofs.YtcbhnhoicecnnaaDoor.Hand
set_option linter.unusedVariables false
set_option linter.unusedSimpArgs false
open Go.RowKit Go.Shelf Go.Maps Go.Proofs.YtcbhnhoicecnnaaDoorW.PrintWords Go.Proofs.YtcbhnhoicecnnaaDoorW.PrintLast Go.Proofs.YtcbhnhoicecnnaaDoorW.PrintMore Go.Proofs.YtcbhnhoicecnnaaDoor.PrK
attribute [local go_sem] Oper.semAt_some
def isClose (c : Int) (dst src : Int × Int) (x : Lk) : Bool := decide (x.fr = dst) && (decide (x.to_ = src) && (decide (x.cell = c) && decide (x.wr ≤ 0)))
theorem closing_is (S : Sh) (t : List Int) (κ : Kn) : closing S t κ = (liveL S (tat t)).find? (isClose (κ.cell S.m) κ.fr κ.to_) := rfl
structure PuW (w : World) (B Tb : Nat) (s : ShM) (fv : Value) (b4 b5 b6 b7 : Nat) (src dst : Int × Int) (c : Int) (t : List Int) (rs : List Nat) (W : World) : Prop where
  bk : BookAt W B Tb s fv t
  hole : HoleL [Tb] w.heap.size w W
  c4 : W.cell? ⟨b4, 0, none⟩ = some (.pointer (some ⟨B, 0, none⟩))
  n5 : NodeAt W b5 src
  n6 : NodeAt W b6 dst
  c7 : BoxN W b7 c
  nd : rs.Nodup
  marks : ∀ r ∈ rs, w.heap.size ≤ r ∧ W.heap[r]? = some (.deferred (some []))
structure NeP (w : World) (B Tb b4 b5 b6 b7 : Nat) : Prop where
  lT : Tb < w.heap.size
  lB : B < w.heap.size
  l4 : w.heap.size ≤ b4
  l5 : w.heap.size ≤ b5
  l6 : w.heap.size ≤ b6
  l7 : w.heap.size ≤ b7
theorem PuW.grow {w W W' : World} {B Tb : Nat} {s : ShM} {fv : Value} {b4 b5 b6 b7 : Nat} {src dst : Int × Int} {c : Int} {t : List Int} {rs : List Nat} (h : PuW w B Tb s fv b4 b5 b6 b7 src dst c t rs W) (hb : Below W.heap.size W W') : PuW w B Tb s fv b4 b5 b6 b7 src dst c t rs W' :=
  ⟨h.bk.below hb, h.hole.trans (HoleL.of_below hb (Nat.le_refl _)) h.hole.size, (hb.cell (cell_size h.c4)).trans h.c4, h.n5.of_heap (hb.block _ (heap_lt h.n5)), h.n6.of_heap (hb.block _ (heap_lt h.n6)), (hb.block _ (heap_lt h.c7)).trans h.c7, h.nd, fun r hr => ⟨(h.marks r hr).1, (hb.block _ (heap_lt (h.marks r hr).2)).trans (h.marks r hr).2⟩⟩
theorem PuW.chg {w W W' : World} {B Tb : Nat} {bs : List Nat} {s : ShM} {fv : Value} {b4 b5 b6 b7 : Nat} {src dst : Int × Int} {c : Int} {t t' : List Int} {rs : List Nat} (h : PuW w B Tb s fv b4 b5 b6 b7 src dst c t rs W) (hn : NeP w B Tb b4 b5 b6 b7) (hh : HoleL (Tb :: bs) W.heap.size W W') (h8 : ∀ b ∈ bs, W.heap.size ≤ b) (hb : BookAt W' B Tb s fv t') : PuW w B Tb s fv b4 b5 b6 b7 src dst c t' rs W' := by
  have l4 := cell_size h.c4
  have l5 := heap_lt h.n5
  have l6 := heap_lt h.n6
  have l7 := heap_lt h.c7
  have e4 := hn.l4
  have e5 := hn.l5
  have e6 := hn.l6
  have e7 := hn.l7
  have eT := hn.lT
  simp only at l4
  have far : ∀ k, w.heap.size ≤ k → k < W.heap.size → W'.heap[k]? = W.heap[k]? := fun k h1 h2 => hh.block k h2 (fun hm => by rcases List.mem_cons.1 hm with e | e; (· omega); (· have := h8 k e; omega))
  refine ⟨hb, ?_, ?_, h.n5.of_heap (far _ (by omega) (by omega)), h.n6.of_heap (far _ (by omega) (by omega)), (far _ (by omega) (by omega)).trans h.c7, h.nd, fun r hr => ⟨(h.marks r hr).1, (far r (h.marks r hr).1 (heap_lt (h.marks r hr).2)).trans (h.marks r hr).2⟩⟩
  · exact h.hole.trans (hh.more (cs := [Tb]) (fun b hb => by rcases List.mem_cons.1 hb with rfl | e; (· exact .inl (by simp)); (· have := h8 b e; have := h.hole.size; exact .inr (by omega)))) h.hole.size
  · rw [hh.cell l4 (fun hm => by rcases List.mem_cons.1 hm with e | e; (· simp only at e; omega); (· have := h8 b4 e; omega))]; exact h.c4
theorem PuW.mark {w W : World} {B Tb : Nat} {s : ShM} {fv : Value} {b4 b5 b6 b7 : Nat} {src dst : Int × Int} {c : Int} {t : List Int} {rs : List Nat} {D : Nat} (h : PuW w B Tb s fv b4 b5 b6 b7 src dst c t rs W) (hD : w.heap.size ≤ D) (hr : ∀ r ∈ rs, r < D) (hDm : W.heap[D]? = some (.deferred (some []))) : PuW w B Tb s fv b4 b5 b6 b7 src dst c t (D :: rs) W := by
  refine ⟨h.bk, h.hole, h.c4, h.n5, h.n6, h.c7, List.nodup_cons.2 ⟨fun hm => ?_, h.nd⟩, fun r hm => ?_⟩
  · have := hr D hm; omega
  · rcases List.mem_cons.1 hm with rfl | hm
    · exact ⟨hD, hDm⟩
    · exact h.marks r hm
theorem hole_marks {bs : List Nat} {w V V' : World} {rs : List Nat} (hb : HoleL bs w.heap.size w V) (hm : ∀ x ∈ rs, w.heap.size ≤ x) (hk : ∀ k, k ∉ rs → V'.heap[k]? = V.heap[k]?) (ho : V'.os = V.os) (ht : V'.tape = V.tape) (hu : V'.output = V.output) (hs : V'.heap.size = V.heap.size) : HoleL bs w.heap.size w V' :=
  ⟨ho.trans hb.os, ht.trans hb.tape, hu.trans hb.output, by rw [hs]; exact hb.size, fun k hk2 hn => (hk k (fun h => by have := hm k h; omega)).trans (hb.block k hk2 hn)⟩
theorem BookAt.marks {V V' w00 : World} {B Tb : Nat} {s : ShM} {fv : Value} {t : List Int} {rs : List Nat} (h : BookAt V B Tb s fv t) (hr : ShR w00 s) (hw : Below w00.heap.size w00 V') (hm : ∀ x ∈ rs, V.heap[x]? = some (.deferred (some []))) (hk : ∀ k, k ∉ rs → V'.heap[k]? = V.heap[k]?) : BookAt V' B Tb s fv t :=
  ⟨(hk B (fun e => by have := hm B e; rw [h.box] at this; cases this)).trans h.box, (hk Tb (fun e => by have := hm Tb e; rw [h.tab] at this; cases this)).trans h.tab, h.ne, hr.below hw⟩
theorem lks_push_cell {l : List Lk} {x : Lk} {n : Int} (h1 : ∀ y ∈ l, y.cell < n) (h2 : x.cell < n) : ∀ y ∈ l ++ [x], y.cell < n := fun y hy => by
  rcases List.mem_append.1 hy with h | h
  · exact h1 y h
  · rw [List.mem_singleton.1 h]; exact h2
theorem way_fine {S : Sh} (hS : S.Ok) {t : List Int} (ht : InL S t) {κ : Kn} (hg : κ.Goal) (hi : κ.Is S) : (wayT S t κ).length ≤ 13 ∧ ∀ x ∈ wayT S t κ, x ∈ linksL S (tat t) ∧ x.cell < (t.length : Int) := by
  by_cases h : wayT S t κ = []
  · rw [h]; exact ⟨by simp, fun x hx => by cases hx⟩
  · obtain ⟨ks, e, hk, hc⟩ := way_circ hS hg hi h
    refine ⟨?_, fun x hx => ?_⟩
    · have hb : ((floodT S t κ).bef κ.fr).isSome = true := by
        unfold wayT at h
        by_cases hb : ((floodT S t κ).bef κ.fr).isSome = true
        · exact hb
        · rw [if_neg hb] at h; exact absurd rfl h
      have hlen : ∀ (k : Nat) (v : Int × Int), (pathB Lk.fr (floodT S t κ).bef lk0 κ.to_ k v).length ≤ k := by
        intro k
        induction k with
        | zero => intro v; simp [pathB]
        | succ k ih =>
          intro v
          rw [pathB]
          split
          · simp
          · have := ih (((floodT S t κ).bef v).getD lk0).fr
            simp only [List.length_cons]; omega
      unfold wayT
      rw [if_pos hb]
      have := hlen (manyS S + 1) κ.fr
      have h5 := hS.n5
      have m5 := hS.m5
      unfold manyS Sh.n Sh.m at this ⊢
      omega
    · rw [← e] at hx
      obtain ⟨k, hk', rfl⟩ := List.mem_map.1 hx
      have his := (hk k hk').1
      refine ⟨(links_kind hS).2 ⟨k, his, rfl⟩, ?_⟩
      have hl : t.length = S.cs.length := ht.1
      cases k with
      | fw o p => have := cell_lt S hS.len his.1 his.2; simp only [lkOf, Kn.cell]; omega
      | bk o p => have := cell_lt S hS.len his.1 his.2; simp only [lkOf, Kn.cell]; omega
      | _ => simp only [lkOf, Kn.cell]; omega
theorem goal_cell {S : Sh} (hS : S.Ok) {t : List Int} (ht : InL S t) {κ : Kn} (hg : κ.Goal) (hi : κ.Is S) : κ.cell S.m < (t.length : Int) := by
  have hl : t.length = S.cs.length := ht.1
  cases κ with
  | fw o p => have := cell_lt S hS.len hi.1 hi.2; simp only [Kn.cell]; omega
  | bk o p => have := cell_lt S hS.len hi.1 hi.2; simp only [Kn.cell]; omega
  | _ => simp only [Kn.cell]; omega
theorem goal_okN {S : Sh} (hS : S.Ok) {κ : Kn} (hg : κ.Goal) (hi : κ.Is S) : okN κ.to_ ∧ okN κ.fr := by
  have h5 := hS.n5
  have m5 := hS.m5
  cases κ with
  | fw o p => exact ⟨ok_pck (by have := hi.2; unfold Sh.m at this; omega), ok_own (by have := hi.1; unfold Sh.n at this; omega)⟩
  | bk o p => exact ⟨ok_own (by have := hi.1; unfold Sh.n at this; omega), ok_pck (by have := hi.2; unfold Sh.m at this; omega)⟩
  | upW => exact ⟨ok_gate, ok_boom⟩
  | dnW => exact ⟨ok_boom, ok_gate⟩
  | upO _ => cases hg
  | dnO _ => cases hg
  | upP _ => cases hg
  | dnP _ => cases hg
theorem wp_push_lk_own {o : Oper} {a : Act} {w : World} {K : Act → World → Prop} {Q : Exit → Act → World → Prop} (s x : Operand)
    (hop : o.op = Op.call { callee := Callee.builtin Builtin.append, args := #[s, x], argTypes := #[106, 106] }) (base : Nat) (A : Option Addr) (c : Nat) (acc : List Lk) (y : Lk) {n : Nat} (hs : a.eval s = .slice A n c) (hown : w.ownsRow base 114 8 (.slice A n c) n (lksC acc))
    (g : Nat) (hx : a.eval x = .slice (some ⟨g, 0, Option.none⟩) 1 1) (hc : w.heap[g]? = some (.cells (lksC [y]).toArray 114 (0, 0))) (hmax : n < 1000) (hbase : base ≤ w.heap.size)
    (hK : ∀ A' c' w', w'.ownsRow base 114 8 (.slice A' (n + 1) c') (n + 1) (lksC (acc ++ [y])) → w.grownBy w' (Value.ownBlock (.slice A n c)) → K (a.put o.dst (.slice A' (n + 1) c')) w') : o.wp Tryd.prog a w K Q := by
  obtain ⟨il, hil, hl0, hl1, hl2⟩ := info_parts infoLk
  refine wp_append_own w s x 106 hop base 114 il (lkV lk0) 8 64 Tryd.underlying106 hil hl0 hl1 hl2 rfl (by decide) _ n (lksC acc) hs hown ⟨g, 0, Option.none⟩ 1 1 (lksC [y]) hx (by rw [lksC_length]; rfl) (cells_of_row hc) (lks_one _) (by unfold maxLen; omega) (by omega) hbase ?_
  intro v' w' h1 h2 _
  obtain ⟨A', c', rfl⟩ := own_opened h1
  exact hK A' c' w' (by rw [lksC_append]; exact h1) h2
theorem find_pre {p : Lk → Bool} {L pre : List Lk} {x : Lk} (h : pre ++ [x] <+: L) (hn : ∀ y ∈ pre, p y = false) (hx : p x = true) : L.find? p = some x := by
  obtain ⟨r, rfl⟩ := h
  rw [List.append_assoc, List.find?_append, List.find?_eq_none.2 (fun y hy => by rw [hn y hy]; simp)]
  simp [hx]
def NoCl (c : Int) (dst src : Int × Int) (pre : List LkG) : Prop := ∀ y ∈ pre, isClose c dst src y.1 = false
structure PuX (W3 : World) (Tb b8 ga : Nat) (c : Int) (dst src : Int × Int) (tj : List Int) (out : List Lk) (cd : Code) (pre : List LkG) (W' : World) : Prop where
  cd : cd = Code.exit 2
  ex : ∃ (p0 : List LkG) (x : LkG), pre = p0 ++ [x] ∧ NoCl c dst src p0 ∧ isClose c dst src x.1 = true ∧ W'.heap[Tb]? = some (.cells (nums .i64 (changeL tj (out ++ [x.1]))).toArray 2 (0, 0))
  hole : HoleL [Tb, b8, ga] W3.heap.size W3 W'
  c8 : W'.heap[b8]? = some (.cells #[.slice none 0 0] 106 (0, 0))
set_option maxHeartbeats 8000000 in
set_option maxRecDepth 100000 in
theorem push_any (κ : Kn) (hg : κ.Goal) (B Tb : Nat) (s : ShM) (hi : κ.Is s.sh) (fv : Value) (t : List Int) (w : World) (h : BookAt w B Tb s fv t) (hS : s.Ok) (hin : InL s.sh t) (hwr : wrongS s.sh (tat t) = 0) (w00 : World) (hv : VarsAt w00) (hr : ShR w00 s) (hw0 : Below w00.heap.size w00 w) (hwB : w00.heap.size ≤ B ∧ w00.heap.size ≤ Tb)
    (s1 s2 d1 d2 c : Int) (hs : κ.to_ = (s1, s2)) (hd : κ.fr = (d1, d2)) (hc : κ.cell s.sh.m = c) :
    Calls Tryd.prog 65 #[.pointer (some ⟨B, 0, none⟩), .agg #[.int .i64 s1, .int .i64 s2], .agg #[.int .i64 d1, .int .i64 d2], .int .i64 c] w fun e w' => e = .returned (.tuple #[]) ∧ BookAt w' B Tb s fv (pushL s.sh κ 20000 t) ∧ HoleL [Tb] w.heap.size w w' := by
  obtain ⟨ok1, ok2⟩ := goal_okN hS hg hi
  rw [hs] at ok1
  rw [hd] at ok2
  have hsrc := goal_node hg hi
  rw [hs] at hsrc
  have hcb : -1 ≤ c ∧ c ≤ 1000 := by
    rw [← hc]
    have h5 := hS.n5
    have m5 := hS.m5
    have hl := hS.len
    cases κ with
    | fw o p => have := cell_lt s.sh hS.len hi.1 hi.2; have h2 : s.sh.os.length * s.sh.ps.length ≤ 5 * 5 := Nat.mul_le_mul h5 m5; simp only [Kn.cell]; omega
    | bk o p => have := cell_lt s.sh hS.len hi.1 hi.2; have h2 : s.sh.os.length * s.sh.ps.length ≤ 5 * 5 := Nat.mul_le_mul h5 m5; simp only [Kn.cell]; omega
    | _ => simp only [Kn.cell]; omega
  have HK := Lib.hid (And.intro hg (And.intro hi (And.intro hs (And.intro hd hc))))
  have HS := Lib.hid hS
  have HR := Lib.hid (And.intro hr (And.intro hw0 (And.intro hwB hv)))
  have HOK := Lib.hid (And.intro ok1 (And.intro ok2 (And.intro hsrc hcb)))
  have HB0 := Lib.hid (And.intro h (And.intro hin hwr))
  obtain ⟨cb1, cb2⟩ := hcb
  have hu1 := Tryd.underlying92
  clear h hin hwr hS hr hw0 hwB hv hg hi hs hd hc ok1 ok2 hsrc
  refine (callsIn_wide (n := 9)).1 (callsIn_of_wp_marks Tryd.func65 rfl trivial (wpIn_wide.2 ?_) rfl)
  simp only [Tryd.ntmps65, List.size_toArray, List.length_cons, List.length_nil, Nat.reduceAdd, Nat.reduceSub, Array.replicate_succ, Array.replicate_zero, List.push_toArray, List.append_toArray, List.nil_append, List.cons_append]
  obtain ⟨W, hW⟩ : ∃ W, W = (((w.alloc (.cells #[.pointer (some ⟨B, 0, none⟩)] 73)).alloc (.cells #[.int .i64 s1, .int .i64 s2] 92)).alloc (.cells #[.int .i64 d1, .int .i64 d2] 92)).alloc (.cells #[.int .i64 c] 3) := ⟨_, rfl⟩
  have hb1 : Below w.heap.size w W := by rw [hW]; exact ((((Below.refl _ _).alloc (Nat.le_refl _) _).alloc (by simp) _).alloc (by simp; omega) _).alloc (by simp; omega) _
  have e4 : W.cell? ⟨w.heap.size, 0, none⟩ = some (.pointer (some ⟨B, 0, none⟩)) := by rw [hW]; simp [go_sem]
  have e5 : NodeAt W (w.heap.size + 1) (s1, s2) := by
    have := heap_alloc_last (w.alloc (.cells #[.pointer (some ⟨B, 0, none⟩)] 73)) (.cells #[.int .i64 s1, .int .i64 s2] 92)
    rw [World.size_alloc] at this
    rw [hW]; exact heap_past (heap_past this _) _
  have e6 : NodeAt W (w.heap.size + 1 + 1) (d1, d2) := by
    have := heap_alloc_last ((w.alloc (.cells #[.pointer (some ⟨B, 0, none⟩)] 73)).alloc (.cells #[.int .i64 s1, .int .i64 s2] 92)) (.cells #[.int .i64 d1, .int .i64 d2] 92)
    rw [World.size_alloc, World.size_alloc] at this
    rw [hW]; exact heap_past this _
  have e7 : BoxN W (w.heap.size + 1 + 1 + 1) c := by
    have := heap_alloc_last (((w.alloc (.cells #[.pointer (some ⟨B, 0, none⟩)] 73)).alloc (.cells #[.int .i64 s1, .int .i64 s2] 92)).alloc (.cells #[.int .i64 d1, .int .i64 d2] 92)) (.cells #[.int .i64 c] 3)
    rw [World.size_alloc, World.size_alloc, World.size_alloc] at this
    rw [hW]; exact this
  go_upto_region 1 with fail
  rw [← hW]
  obtain ⟨b4, hb4⟩ : ∃ b, b = w.heap.size := ⟨_, rfl⟩
  obtain ⟨b5, hb5⟩ : ∃ b, b = w.heap.size + 1 := ⟨_, rfl⟩
  obtain ⟨b6, hb6⟩ : ∃ b, b = w.heap.size + 1 + 1 := ⟨_, rfl⟩
  obtain ⟨b7, hb7⟩ : ∃ b, b = w.heap.size + 1 + 1 + 1 := ⟨_, rfl⟩
  have HNE : Hid (NeP w B Tb b4 b5 b6 b7) := Lib.hid (by
    have := heap_lt HB0.out.1.box
    have := heap_lt HB0.out.1.tab
    constructor <;> omega)
  have HP0 : Hid (PuW w B Tb s fv b4 b5 b6 b7 (s1, s2) (d1, d2) c t [] W) := Lib.hid (by
    rw [hb7, hb6, hb5, hb4]
    exact ⟨HB0.out.1.below hb1, HoleL.of_below hb1 (Nat.le_refl _), e4, e5, e6, e7, List.nodup_nil, fun r hr => absurd hr List.not_mem_nil⟩)
  rw [← hb7, ← hb6, ← hb5, ← hb4]
  clear hW hb1 e4 e5 e6 e7 hb4 hb5 hb6 hb7
  go_upto_block 0 with fail
  refine wp_block ?_
  refine wp_loop_ghost_k (fun n a W' => ∃ (ds : List Deferred) (rs : List Nat) (j : Int) (tj : List Int), ∃ u8 u9 u11 u12 u13 u14 u15 u16 u17 u18 u19 u20 u21 u22 u23 u24 u25 u26 u27 u28 u29 u30 u31 u32 u33 u34 u35 u36 u37 u38 u39 u40 u41 u42 u43 u44 u45 u46 u47 u48 u49 u50 u51 u52 : Value, a = { tmps := #[.pointer (some ⟨B, 0, none⟩), .agg #[.int .i64 s1, .int .i64 s2], .agg #[.int .i64 d1, .int .i64 d2], .int .i64 c, .pointer (some ⟨b4, 0, none⟩), .pointer (some ⟨b5, 0, none⟩), .pointer (some ⟨b6, 0, none⟩), .pointer (some ⟨b7, 0, none⟩), u8, u9, .int .i64 j, u11, u12, u13, u14, u15, u16, u17, u18, u19, u20, u21, u22, u23, u24, u25, u26, u27, u28, u29, u30, u31, u32, u33, u34, u35, u36, u37, u38, u39, u40, u41, u42, u43, u44, u45, u46, u47, u48, u49, u50, u51, u52], defers := ds } ∧ MarksOk ds rs ∧ Hid (PuW w B Tb s fv b4 b5 b6 b7 (s1, s2) (d1, d2) c tj rs W') ∧ Hid (InL s.sh tj ∧ wrongS s.sh (tat tj) = 0 ∧ pushL s.sh κ n tj = pushL s.sh κ 20000 t ∧ κ.top s.sh - κ.val s.sh (tat tj) < n) ∧ j = 20000 - (n : Int) ∧ n ≤ 20000) 20000 ?h0 ?round
  case h0 =>
    refine ⟨[], [], 0, t, ?_⟩
    (repeat apply Exists.intro)
    exact ⟨rfl, (show MarksOk [] [] from rfl), HP0, Lib.hid ⟨HB0.out.2.1, HB0.out.2.2, rfl, by have := top_low HS.out ⟨HB0.out.2.1.2, HB0.out.2.2⟩ HK.out.1 HK.out.2.1; omega⟩, by omega, by omega⟩
  case round =>
    clear HP0 HB0
    intro n a0 W0 hinv J K hJ hK
    obtain ⟨ds, rs, j, tj, hinv⟩ := hinv
    obtain ⟨u8, hinv⟩ := hinv
    obtain ⟨u9, hinv⟩ := hinv
    obtain ⟨u11, hinv⟩ := hinv
    obtain ⟨u12, hinv⟩ := hinv
    obtain ⟨u13, hinv⟩ := hinv
    obtain ⟨u14, hinv⟩ := hinv
    obtain ⟨u15, hinv⟩ := hinv
    obtain ⟨u16, hinv⟩ := hinv
    obtain ⟨u17, hinv⟩ := hinv
    obtain ⟨u18, hinv⟩ := hinv
    obtain ⟨u19, hinv⟩ := hinv
    obtain ⟨u20, hinv⟩ := hinv
    obtain ⟨u21, hinv⟩ := hinv
    obtain ⟨u22, hinv⟩ := hinv
    obtain ⟨u23, hinv⟩ := hinv
    obtain ⟨u24, hinv⟩ := hinv
    obtain ⟨u25, hinv⟩ := hinv
    obtain ⟨u26, hinv⟩ := hinv
    obtain ⟨u27, hinv⟩ := hinv
    obtain ⟨u28, hinv⟩ := hinv
    obtain ⟨u29, hinv⟩ := hinv
    obtain ⟨u30, hinv⟩ := hinv
    obtain ⟨u31, hinv⟩ := hinv
    obtain ⟨u32, hinv⟩ := hinv
    obtain ⟨u33, hinv⟩ := hinv
    obtain ⟨u34, hinv⟩ := hinv
    obtain ⟨u35, hinv⟩ := hinv
    obtain ⟨u36, hinv⟩ := hinv
    obtain ⟨u37, hinv⟩ := hinv
    obtain ⟨u38, hinv⟩ := hinv
    obtain ⟨u39, hinv⟩ := hinv
    obtain ⟨u40, hinv⟩ := hinv
    obtain ⟨u41, hinv⟩ := hinv
    obtain ⟨u42, hinv⟩ := hinv
    obtain ⟨u43, hinv⟩ := hinv
    obtain ⟨u44, hinv⟩ := hinv
    obtain ⟨u45, hinv⟩ := hinv
    obtain ⟨u46, hinv⟩ := hinv
    obtain ⟨u47, hinv⟩ := hinv
    obtain ⟨u48, hinv⟩ := hinv
    obtain ⟨u49, hinv⟩ := hinv
    obtain ⟨u50, hinv⟩ := hinv
    obtain ⟨u51, hinv⟩ := hinv
    obtain ⟨u52, hinv⟩ := hinv
    obtain ⟨rfl, hds, HP, HI, hj, hn20⟩ := hinv
    have n0 : n ≠ 0 := fun e => by
      subst e
      have := val_top HS.out ⟨HI.out.1.2, HI.out.2.1⟩ HK.out.1 HK.out.2.1
      have := HI.out.2.2.2
      omega
    have jlt : j < 20000 := by omega
    have j0 : 0 ≤ j := by omega
    obtain ⟨k', hk'⟩ : ∃ k', n = k' + 1 := ⟨n - 1, by omega⟩
    have HJN := Lib.hid (And.intro hj (And.intro hk' hn20))
    clear hj hk' n0 hn20
    have hvW : Hid (VarsAt W0 ∧ Below w00.heap.size w00 W0) := Lib.hid (by
      have h1 : Below w00.heap.size w00 W0 := HR.out.2.1.trans (HP.out.hole.below HR.out.2.1.size (by simp; exact HR.out.2.2.1.2))
      exact ⟨HR.out.2.2.2.below h1, h1⟩)
    obtain ⟨out, hout⟩ : ∃ out, out = wayT s.sh tj κ := ⟨_, rfl⟩
    have HW := Lib.hid (way_any B Tb s fv tj W0 HP.out.bk (tok_in HS.out HI.out.1) hvW.out.1 s1 s2 d1 d2 c HOK.out.2.2.1 HOK.out.1 HOK.out.2.1 HOK.out.2.2.2 (floodT s.sh tj κ) (by unfold floodT; rw [HK.out.2.2.1]; unfold wayList; rw [show okL s.sh κ = okG c from by funext x; rw [okL_is, HK.out.2.2.2.2]]) out (by rw [hout]; unfold wayT; rw [HK.out.2.2.1, HK.out.2.2.2.1]))
    have HOUT := Lib.hid hout
    clear hout
    have c4 := HP.out.c4
    have c50 := HP.out.n5.c0
    have c51 := HP.out.n5.c1
    have c60 := HP.out.n6.c0
    have c61 := HP.out.n6.c1
    have c7 := HP.out.c7.cell
    dsimp only at c50 c51 c60 c61
    by_cases ho : out = []
    · have HO := Lib.hid ho
      clear ho
      go_upto_region 4 with (go_at_call 81; refine HW.out.mono ?_; rintro e W1 ⟨vw, rfl, hw1⟩; rw [HO.out] at hw1; obtain ⟨A, c8, rfl⟩ := own_opened hw1.1; have H1 := Lib.hid hw1; clear hw1)
      obtain ⟨W2, hW2⟩ : ∃ W2, W2 = W1.alloc (.cells #[.slice A 0 c8] 106) := ⟨_, rfl⟩
      have c8_ : W2.cell? ⟨W1.heap.size, 0, none⟩ = some (.slice A 0 c8) := by rw [hW2]; simp [go_sem]
      have HP2 : Hid (PuW w B Tb s fv b4 b5 b6 b7 (s1, s2) (d1, d2) c tj rs W2) := Lib.hid ((HP.out.grow H1.out.2).grow (by rw [hW2]; exact (Below.refl _ _).alloc (Nat.le_refl _) _))
      rw [← hW2]
      clear hW2 c4 c50 c51 c60 c61 c7
      go_wp2_with fail
      show LeavesInM Fence.wide 9 Tryd.prog Tryd.f65 _ _ ds .returning W2
      rw [hds]
      refine leaves_marks (.tuple #[]) rs W2 HP2.out.nd (fun r hr => (HP2.out.marks r hr).2) fun W'' hk ho ht hu hs => ⟨results_none rfl _ _ _, rfl, ?_⟩
      have hhole := hole_marks HP2.out.hole (fun x hx => (HP2.out.marks x hx).1) hk ho ht hu hs
      have hw2 : Below w00.heap.size w00 W'' := HR.out.2.1.trans (hhole.below HR.out.2.1.size (by simp; exact HR.out.2.2.1.2))
      refine ⟨?_, hhole⟩
      rw [← HI.out.2.2.1, HJN.out.2.1, pushL, if_pos (HOUT.out.symm.trans HO.out)]
      exact HP2.out.bk.marks HR.out.1 hw2 (fun x hx => (HP2.out.marks x hx).2) hk
    · have HO := Lib.hid ho
      obtain ⟨m, hm⟩ : ∃ m, m = out.length := ⟨_, rfl⟩
      have hm0 : ¬ ((m : Int) = 0) := fun e => ho (List.eq_nil_of_length_eq_zero (by omega))
      have gm : ((m : Int) == 0) = false := beq_eq_false_iff_ne.2 hm0
      have HM := Lib.hid hm
      clear ho hm hm0
      go_upto_region 4 with (go_at_call 81; refine HW.out.mono ?_; rintro e W1 ⟨vw, rfl, hw1⟩; rw [← HM.out] at hw1; obtain ⟨A, c8, rfl⟩ := own_opened hw1.1; have H1 := Lib.hid hw1; clear hw1)
      obtain ⟨ga, HGA⟩ : ∃ ga, A = some ⟨ga, 0, none⟩ ∧ Hid (W0.heap.size ≤ ga ∧ ga < W1.heap.size) := by
        rcases H1.out.1.2 with ⟨hv, h0⟩ | ⟨g, cap, cur, hv, hgb, hgh, hgr⟩
        · exact absurd (show (m : Int) = 0 by cases hv; rfl) (fun e => by rw [e] at gm; cases gm)
        · cases hv; exact ⟨g, rfl, Lib.hid ⟨hgb, heap_lt hgh⟩⟩
      obtain ⟨rfl, HGA⟩ := HGA
      obtain ⟨W2, hW2⟩ : ∃ W2, W2 = W1.alloc (.cells #[.slice (some ⟨ga, 0, none⟩) m c8] 106) := ⟨_, rfl⟩
      obtain ⟨b8, hb8⟩ : ∃ b, b = W1.heap.size := ⟨_, rfl⟩
      have hb2 : Below W1.heap.size W1 W2 := by rw [hW2]; exact (Below.refl _ _).alloc (Nat.le_refl _) _
      have h8 : W2.heap[b8]? = some (.cells #[.slice (some ⟨ga, 0, none⟩) m c8] 106 (0, 0)) := by rw [hW2, hb8]; exact heap_alloc_last _ _
      have c8_ : W2.cell? ⟨b8, 0, none⟩ = some (.slice (some ⟨ga, 0, none⟩) m c8) := by rw [cell_of_row _ _ _ _ _ _ h8]; rfl
      have HP2 : Hid (PuW w B Tb s fv b4 b5 b6 b7 (s1, s2) (d1, d2) c tj rs W2) := Lib.hid ((HP.out.grow H1.out.2).grow hb2)
      have HW2 : Hid (Below w00.heap.size w00 W2 ∧ VarsAt W2 ∧ W2.ownsRow W0.heap.size 114 8 (.slice (some ⟨ga, 0, none⟩) m c8) m (lksC out) ∧ W2.heap[b8]? = some (.cells #[.slice (some ⟨ga, 0, none⟩) m c8] 106 (0, 0)) ∧ W0.heap.size ≤ b8 ∧ B < W0.heap.size ∧ Tb < W0.heap.size ∧ Below W0.heap.size W0 W2 ∧ ga < b8) := Lib.hid (by
        have hbb : Below w00.heap.size w00 W2 := (hvW.out.2.trans (H1.out.2.mono hvW.out.2.size)).trans (hb2.mono (by have := hvW.out.2.size; have := H1.out.2.size; omega))
        have k1 := heap_lt HP.out.bk.box
        have k2 := heap_lt HP.out.bk.tab
        have k3 := H1.out.2.size
        have k4 := hb2.size
        have hlow := own_lower H1.out.1 (Nat.le_refl _)
        have hkeep : W2.ownsRow W0.heap.size 114 8 (.slice (some ⟨ga, 0, none⟩) m c8) m (lksC out) := own_kept hlow fun k o ho _ => (hb2.block k (heap_lt ho)).trans ho
        exact ⟨hbb, HR.out.2.2.2.below hbb, hkeep, h8, by omega, k1, k2, H1.out.2.trans (hb2.mono H1.out.2.size), by have := HGA.out; omega⟩)
      have HLK := Lib.hid (links_any B Tb s fv tj W2 HW2.out.2.1 HP2.out.bk (tok_in HS.out HI.out.1))
      have c42 := HP2.out.c4
      rw [← hW2, ← hb8]
      clear hW2 hb8 hb2 h8 c4 c50 c51 c60 c61 c7
      go_wp2_with (first | (go_at_call 82; refine HLK.out.mono ?_; rintro e W3 ⟨bL, vL, rfl, h1⟩; have H3 := Lib.hid h1; clear h1))
      obtain ⟨h11, h12, h13, h14, h15⟩ := H3.out
      have hLpos : 0 < (linksL s.sh (tat tj)).length := by rw [← lkA_is, lkA_length]; omega
      obtain ⟨g, cc, cur, rfl, hg1, hg2, hg3⟩ := row_open h12 hLpos
      have htok := tok_in HS.out HI.out.1
      have hgood := links_good htok
      have hlen := links_len htok
      obtain ⟨LA, hLA⟩ : ∃ LA : List LkG, LA.map (fun x => x.1) = (linksL s.sh (tat tj)).filter (fun x => decide (0 < x.room)) := ⟨liveG _ hgood, liveG_val _ _⟩
      have HSEQ := Lib.hid (links_stops (α := LkG) (fun x => x.1) LA (linksL s.sh (tat tj)) hLA bL g cc W3 (by omega) (fun x hx => (hgood x hx).room) h11 cur hg2 hg3 8)
      have HLL : Hid (LA.map (fun x => x.1) = liveL s.sh (tat tj)) := Lib.hid hLA
      have HZ : Hid (W0.heap.size ≤ W2.heap.size ∧ ga < b8 ∧ W0.heap.size ≤ ga ∧ W0.heap.size ≤ b8 ∧ B < W0.heap.size ∧ Tb < W0.heap.size ∧ W2.heap.size ≤ g ∧ g < W3.heap.size ∧ W2.heap.size ≤ W3.heap.size ∧ b8 < W2.heap.size ∧ b4 < W0.heap.size ∧ b5 < W0.heap.size ∧ b6 < W0.heap.size ∧ b7 < W0.heap.size) := Lib.hid (by
        have a0 := heap_lt hg2
        have q0 := HW2.out.2.2.2.2
        have q1 := q0.2.2.2.1.size
        have q2 := HGA.out
        have a1 := h15.size
        have a2 := heap_lt HW2.out.2.2.2.1
        have a4 := cell_size HP.out.c4
        have a5 := heap_lt HP.out.n5
        have a6 := heap_lt HP.out.n6
        have a7 := heap_lt HP.out.c7
        simp only at a4
        omega)
      have HP3 : Hid (PuW w B Tb s fv b4 b5 b6 b7 (s1, s2) (d1, d2) c tj rs W3 ∧ Below w00.heap.size w00 W3 ∧ W3.ownsRow W0.heap.size 114 8 (.slice (some ⟨ga, 0, none⟩) m c8) m (lksC out) ∧ W3.heap[b8]? = some (.cells #[.slice (some ⟨ga, 0, none⟩) m c8] 106 (0, 0)) ∧ Below W0.heap.size W0 W3) := Lib.hid ⟨HP2.out.grow h15, HW2.out.1.trans (h15.mono HW2.out.1.size), own_kept HW2.out.2.2.1 fun k o ho _ => (h15.block k (heap_lt ho)).trans ho, (h15.block _ (heap_lt HW2.out.2.2.2.1)).trans HW2.out.2.2.2.1, HW2.out.2.2.2.2.2.2.2.1.trans (h15.mono HW2.out.2.2.2.2.2.2.2.1.size)⟩
      clear h11 h12 h13 h14 h15 hg1 hg2 hg3 htok hgood hlen hLA hLpos HLK H3 c42 c8_
      refine (wpIn_wide (n := 9)).1 ?_
      refine wpIn_rangeFunc_ownH (F := Fence.wide) (α := LkG) (encs := fun x : LkG => #[lkV x.1]) (Kp := KeepG g) (S := fun xs : List LkG => xs = LA) (Sp := fun pre : List LkG => pre <+: LA) (N := LA.length) (w0 := W3) rfl (by decide) (gf := 85) (lb := #[.pointer (some ⟨bL, 0, none⟩)]) rfl trivial (enters_of Tryd.func85 (by kernel_rfl) rfl)
        HSEQ.out (fun h k => h.trans k) ?keepb (Below.refl _ _) (fun _ => rfl)
        (fun (pre : List LkG) W' => NoCl c (d1, d2) (s1, s2) pre ∧ HoleL [] W3.heap.size W3 W')
        (PuX W3 Tb b8 ga c (d1, d2) (s1, s2) tj out)
        ?own ?ownx
        ⟨fun y hy => absurd hy List.not_mem_nil, HoleL.refl _ _ _⟩
        (fun (x : LkG) a' W' => ∃ Bx, W3.heap.size ≤ Bx ∧ W'.heap[Bx]? = some (.cells (lkC x.1).toArray 114 (0, 0)) ∧
          a' = { tmps := #[.pointer (some ⟨B, 0, none⟩), .agg #[.int .i64 s1, .int .i64 s2], .agg #[.int .i64 d1, .int .i64 d2], .int .i64 c, .pointer (some ⟨b4, 0, none⟩), .pointer (some ⟨b5, 0, none⟩), .pointer (some ⟨b6, 0, none⟩), .pointer (some ⟨b7, 0, none⟩), .pointer (some ⟨b8, 0, none⟩), .pointer (some ⟨Bx, 0, none⟩), .int .i64 j, .bool true, .pointer (some ⟨B, 0, none⟩), .agg #[.int .i64 s1, .int .i64 s2], .agg #[.int .i64 d1, .int .i64 d2], .int .i64 c, .slice (some ⟨ga, 0, none⟩) m c8, .slice (some ⟨ga, 0, none⟩) m c8, .int .i64 (m : Int), .bool false, .pointer (some ⟨B, 0, none⟩), .func (.func 85) #[] #[.pointer (some ⟨bL, 0, none⟩)], lkV x.1, u23, u24, u25, u26, u27, u28, u29, u30, u31, u32, u33, u34, u35, u36, u37, u38, u39, u40, u41, u42, u43, u44, u45, u46, u47, u48, u49, u50, u51, u52], defers := [] })
        ?ax ?assign ?body ?done ?stop
      case own =>
        intro pre X Y row hI hgr hrow
        exact ⟨hI.1, hole_own (β := Unit) (bs := []) W3 (Nat.le_refl _) (Nat.le_refl _) () X Y row hI.2 hgr hrow⟩
      case ownx =>
        rintro cd pre X Y row ⟨h1, ⟨p0, x, h2, h3, h4, h5⟩, h6, h7⟩ hgr hrow
        have hT : Tb < W3.heap.size := by have := HZ.out; omega
        exact ⟨h1, ⟨p0, x, h2, h3, h4, block_kept h5 hT hgr hrow⟩, hole_own (β := Unit) (bs := [Tb, b8, ga]) W3 (Nat.le_refl _) (Nat.le_refl _) () X Y row h6 hgr hrow, block_kept h7 (by have := HZ.out; omega) hgr hrow⟩
      case keepb => exact fun W' lo o o' h1 _ _ _ => keepG_put o' (by have := HZ.out; omega)
      case ax =>
        rintro x a' _ X Y row ⟨Bx, hx1, hx2, rfl⟩ hg hr
        exact ⟨Bx, hx1, (hg.block Bx (heap_lt hx2) (fun e => by obtain ⟨_, o, ho, hc⟩ := hr Bx e.symm; rw [hx2] at ho; cases ho; cases hc)).trans hx2, rfl⟩
      case assign =>
        rintro lo pre x W' K hi hK
        dsimp only [lkV, lkC]
        gi_wp2
        have hb := (Below.refl W'.heap.size W').alloc (Nat.le_refl _) (.cells (lkC x.1).toArray 114)
        refine hK _ _ (KeepsFrom.of_grownBy (World.grownBy_alloc _ _ none) (fun j e => by cases e)) (KeepG.of_below hb (by have := HZ.out; have := hi.2.size; omega)) ⟨hi.1, hi.2.trans (HoleL.of_below hb (Nat.le_refl _)) hi.2.size⟩ ⟨W'.heap.size, hi.2.size, heap_alloc_last _ _, rfl⟩
      case stop =>
        rintro D cd pre W' hD hpre ⟨rfl, ⟨p0, x, rfl, hno, hyes, htb⟩, hhole, h8⟩ hDm
        have hz := HZ.out
        have c8n : W'.cell? ⟨b8, 0, none⟩ = some (.slice none 0 0) := by rw [cell_of_row _ _ _ _ _ _ h8]; rfl
        have hcl : closing s.sh tj κ = some x.1 := by
          rw [closing_is, HK.out.2.2.1, HK.out.2.2.2.1, HK.out.2.2.2.2]
          refine find_pre (pre := p0.map fun x => x.1) ?_ (fun y hy => ?_) hyes
          · rw [← HLL.out]
            obtain ⟨r, hr⟩ := hpre
            exact ⟨r.map fun x => x.1, by rw [← hr]; simp⟩
          · obtain ⟨z, hz, rfl⟩ := List.mem_map.1 hy
            exact hno z hz
        have hne : wayT s.sh tj κ ≠ [] := fun e => by
          have := HM.out
          rw [HOUT.out, e] at this
          rw [this] at gm; cases gm
        have HST : Hid (InL s.sh (changeL tj (out ++ [x.1])) ∧ wrongS s.sh (tat (changeL tj (out ++ [x.1]))) = 0 ∧ pushL s.sh κ k' (changeL tj (out ++ [x.1])) = pushL s.sh κ 20000 t ∧ κ.top s.sh - κ.val s.sh (tat (changeL tj (out ++ [x.1]))) < k') := Lib.hid (by
          obtain ⟨p1, p2, r, p3, p4, -⟩ := push_step HS.out HI.out.1 HI.out.2.1 HK.out.1 HK.out.2.1 hne hcl
          rw [HOUT.out]
          have h3 := HI.out.2.2.1
          have h4 := HI.out.2.2.2
          rw [HJN.out.2.1] at h3 h4
          rw [pushL, if_neg hne, hcl] at h3
          exact ⟨p1, p2, h3, by omega⟩)
        have hh0 : HoleL [Tb, b8, ga] W0.heap.size W0 W' := (HoleL.of_below HP3.out.2.2.2.2 (Nat.le_refl _)).trans hhole HP3.out.2.2.2.2.size
        have hw1 : Below w00.heap.size w00 W' := HP3.out.2.1.trans (hhole.below HP3.out.2.1.size (by have := HR.out.2.2.1.2; have := hvW.out.2.size; simp; omega))
        have hbk : BookAt W' B Tb s fv (changeL tj (out ++ [x.1])) := by
          have hlen : (changeL tj (out ++ [x.1])).length = tj.length := fold_length _ _ _
          refine ⟨?_, htb, HP3.out.1.bk.ne, HR.out.1.below hw1⟩
          rw [hlen]
          exact (hhole.block B (heap_lt HP3.out.1.bk.box) (by have := HP3.out.1.bk.ne; simp; omega)).trans HP3.out.1.bk.box
        have HPN : Hid (PuW w B Tb s fv b4 b5 b6 b7 (s1, s2) (d1, d2) c (changeL tj (out ++ [x.1])) (D :: rs) W') := Lib.hid ((HP.out.chg HNE.out hh0 (by simp; omega) hbk).mark (by have := HP3.out.1.hole.size; omega) (fun r hr => by have := heap_lt (HP3.out.1.marks r hr).2; have := heap_lt (HP.out.marks r hr).2; omega) hDm)
        have HDS : Hid (MarksOk ({ target := .collected D, args := #[] } :: ds) (D :: rs)) := Lib.hid (by rw [MarksOk, hds, List.map_cons])
        have hjw : IntKind.i64.wrap (j + 1) = j + 1 := IntWalk.i64_in _ (by omega)
        clear hno hyes htb hhole h8 hDm hpre hz hcl hne hh0 hw1 hbk
        have hnq : ∀ W, (binOp .neq 106 (.slice none 0 0) (.slice none 0 0)).run Tryd.prog W = .ok (.bool false) W := fun W => by
          rw [run_neq_slice_nil _ _ _ _ _ _ Tryd.underlying106]; rfl
        refine wpIn_wide.2 ?_
        go_wp2_with fail
        refine Handed.intro k' (by have := HJN.out; omega) (hJ k' _ _ ⟨{ target := .collected D, args := #[] } :: ds, D :: rs, j + 1, changeL tj (out ++ [x.1]), ?_⟩)
        (repeat apply Exists.intro)
        exact ⟨rfl, HDS.out, HPN, HST, by have h9 := HJN.out; omega, by have := HJN.out; omega⟩
      case done =>
        intro D ys W' hD hys hi hDK
        have hbW : Below W3.heap.size W3 W' := hi.2.below (Nat.le_refl _) (by simp)
        have c8n : W'.cell? ⟨b8, 0, none⟩ = some (.slice (some ⟨ga, 0, none⟩) m c8) := by rw [cell_of_row _ _ _ _ _ _ ((hbW.block _ (heap_lt HP3.out.2.2.2.1)).trans HP3.out.2.2.2.1)]; rfl
        have hcl : closing s.sh tj κ = none := by
          rw [closing_is, HK.out.2.2.1, HK.out.2.2.2.1, HK.out.2.2.2.2, ← HLL.out, ← hys]
          refine List.find?_eq_none.2 fun y hy => ?_
          obtain ⟨z, hz, rfl⟩ := List.mem_map.1 hy
          rw [hi.1 z hz]; simp
        have hne : wayT s.sh tj κ ≠ [] := fun e => by
          have := HM.out
          rw [HOUT.out, e] at this
          rw [this] at gm; cases gm
        have HPN : Hid (PuW w B Tb s fv b4 b5 b6 b7 (s1, s2) (d1, d2) c tj (D :: rs) W' ∧ pushL s.sh κ 20000 t = tj) := Lib.hid ⟨(HP3.out.1.grow hbW).mark (by have := HP3.out.1.hole.size; omega) (fun r hr => by have := heap_lt (HP3.out.1.marks r hr).2; omega) hDK, by
          have h3 := HI.out.2.2.1
          rw [HJN.out.2.1] at h3
          rw [pushL, if_neg hne, hcl] at h3
          exact h3.symm⟩
        have HDS : Hid (MarksOk ({ target := .collected D, args := #[] } :: ds) (D :: rs)) := Lib.hid (by rw [MarksOk, hds, List.map_cons])
        clear hi hcl hne hbW hDK hys hD
        have hnq : ∀ W, (binOp .neq 106 (.slice (some ⟨ga, 0, none⟩) m c8) (.slice none 0 0)).run Tryd.prog W = .ok (.bool true) W := fun W => by
          rw [run_neq_slice_nil _ _ _ _ _ _ Tryd.underlying106]; rfl
        gi_wp2
        go_wp2_with fail
        show LeavesInM Fence.wide 9 Tryd.prog Tryd.f65 _ _ ({ target := .collected D, args := #[] } :: ds) .returning W'
        rw [HDS.out]
        refine leaves_marks (.tuple #[]) (D :: rs) W' HPN.out.1.nd (fun r hr => (HPN.out.1.marks r hr).2) fun W'' hk ho ht hu hs => ⟨results_none rfl _ _ _, rfl, ?_⟩
        have hhole := hole_marks HPN.out.1.hole (fun x hx => (HPN.out.1.marks x hx).1) hk ho ht hu hs
        have hw2 : Below w00.heap.size w00 W'' := HR.out.2.1.trans (hhole.below HR.out.2.1.size (by simp; exact HR.out.2.2.1.2))
        refine ⟨?_, hhole⟩
        rw [HPN.out.2]
        exact HPN.out.1.bk.marks HR.out.1 hw2 (fun x hx => (HPN.out.1.marks x hx).2) hk
      case body =>
        rintro lo pre x a' W' hlo ⟨rec, hrec⟩ hi ⟨Bx, hx1, hx2, rfl⟩ hlen
        obtain ⟨x, hx⟩ := x
        obtain ⟨⟨f1, f2⟩, ⟨t1, t2⟩, wr, rm, cl, sg⟩ := x
        dsimp only at hx2
        have hbW : Below W3.heap.size W3 W' := hi.2.below (Nat.le_refl _) (by simp)
        have HPx : Hid (PuW w B Tb s fv b4 b5 b6 b7 (s1, s2) (d1, d2) c tj rs W' ∧ Below w00.heap.size w00 W' ∧ W'.ownsRow W0.heap.size 114 8 (.slice (some ⟨ga, 0, none⟩) m c8) m (lksC out) ∧ W'.heap[b8]? = some (.cells #[.slice (some ⟨ga, 0, none⟩) m c8] 106 (0, 0)) ∧ W'.heap[Bx]? = some (.cells (lksC [⟨(f1, f2), (t1, t2), wr, rm, cl, sg⟩]).toArray 114 (0, 0))) := Lib.hid ⟨HP3.out.1.grow hbW, HP3.out.2.1.trans (hbW.mono HP3.out.2.1.size), own_kept HP3.out.2.2.1 fun k o ho _ => (hbW.block k (heap_lt ho)).trans ho, (hbW.block _ (heap_lt HP3.out.2.2.2.1)).trans HP3.out.2.2.2.1, by rw [lksC]; simpa using hx2⟩
        have e4 := HPx.out.1.c4
        have e50 := HPx.out.1.n5.c0
        have e51 := HPx.out.1.n5.c1
        have e60 := HPx.out.1.n6.c0
        have e61 := HPx.out.1.n6.c1
        have e7 := HPx.out.1.c7.cell
        have e8 : W'.cell? ⟨b8, 0, none⟩ = some (.slice (some ⟨ga, 0, none⟩) m c8) := by rw [cell_of_row _ _ _ _ _ _ HPx.out.2.2.2.1]; rfl
        have f8 : W'.frozen? ⟨b8, 0, none⟩ = false := frozen_of_row W' _ 0 _ _ HPx.out.2.2.2.1
        dsimp only at e50 e51 e60 e61
        have xc : ∀ (i : Nat) (v : Value), (lkC ⟨(f1, f2), (t1, t2), wr, rm, cl, sg⟩)[i]? = some v → W'.cell? ⟨Bx, i, none⟩ = some v := fun i v hv => by
          rw [cell_of_row W' _ _ _ _ _ hx2]; simpa using hv
        have y0 := xc 0 _ rfl
        have y1 := xc 1 _ rfl
        have y2 := xc 2 _ rfl
        have y3 := xc 3 _ rfl
        have y4 := xc 4 _ rfl
        have y5 := xc 5 _ rfl
        have y6 := xc 6 _ rfl
        have y7 := xc 7 _ rfl
        dsimp only at y0 y1 y2 y3 y4 y5 y6 y7
        obtain ⟨n1, hn1⟩ : ∃ b, b = decide (((f1, f2) : Int × Int) = (d1, d2)) := ⟨_, rfl⟩
        obtain ⟨n2, hn2⟩ : ∃ b, b = decide (((t1, t2) : Int × Int) = (s1, s2)) := ⟨_, rfl⟩
        have HCL : Hid (isClose c (d1, d2) (s1, s2) ⟨(f1, f2), (t1, t2), wr, rm, cl, sg⟩ = (n1 && (n2 && (decide (cl = c) && decide (wr ≤ 0))))) := Lib.hid (by rw [hn1, hn2]; rfl)
        have q1 : ∀ W, (binOp .eql 92 (.agg #[.int .i64 f1, .int .i64 f2]) (.agg #[.int .i64 d1, .int .i64 d2])).run Tryd.prog W = .ok (.bool n1) W := fun W => by rw [hn1]; exact eql_node2 W _ _ _ _
        have q2 : ∀ W, (binOp .eql 92 (.agg #[.int .i64 t1, .int .i64 t2]) (.agg #[.int .i64 s1, .int .i64 s2])).run Tryd.prog W = .ok (.bool n2) W := fun W => by rw [hn2]; exact eql_node2 W _ _ _ _
        have hfin : Hid (isClose c (d1, d2) (s1, s2) ⟨(f1, f2), (t1, t2), wr, rm, cl, sg⟩ = false → KeepsFrom W3.heap.size W' W' ∧ KeepG g W' W' ∧ NoCl c (d1, d2) (s1, s2) (pre ++ [(⟨⟨(f1, f2), (t1, t2), wr, rm, cl, sg⟩, hx⟩ : LkG)]) ∧ HoleL [] W3.heap.size W3 W') := Lib.hid fun h => ⟨KeepsFrom.refl _ _, ⟨rfl, Nat.le_refl _⟩, fun y hy => by
          rcases List.mem_append.1 hy with h1 | h1
          · exact hi.1 y h1
          · rw [List.mem_singleton.1 h1]; exact h, hi.2⟩
        have HIX := Lib.hid (And.intro hi (And.intro hx1 hx))
        clear hn1 hn2 hi hx2 xc hrec hlen hbW
        cases n1 with
        | false => gi_wp2; exact hfin.out (by rw [HCL.out]; rfl)
        | true =>
          cases n2 with
          | false => gi_wp2; exact hfin.out (by rw [HCL.out]; rfl)
          | true =>
            by_cases g3 : cl = c
            · subst g3
              by_cases g4 : wr ≤ 0
              · have g4i : decide (wr ≤ 0) = true := decide_eq_true g4
                have HYES : Hid (isClose cl (d1, d2) (s1, s2) ⟨(f1, f2), (t1, t2), wr, rm, cl, sg⟩ = true) := Lib.hid (by rw [HCL.out]; simp [g4])
                clear g4
                gi_upto_region 8 with fail
                obtain ⟨SS, hSS⟩ : ∃ SS : World → Prop, SS = fun v => v.cell? ⟨b4, 0, none⟩ = some (.pointer (some ⟨B, 0, none⟩)) ∧ v.cell? ⟨b8, 0, none⟩ = some (.slice (some ⟨ga, 0, none⟩) m c8) ∧ v.cell? ⟨Bx, 0, none⟩ = some (.int .i64 f1) ∧ v.cell? ⟨Bx, 1, none⟩ = some (.int .i64 f2) ∧ v.cell? ⟨Bx, 2, none⟩ = some (.int .i64 t1) ∧ v.cell? ⟨Bx, 3, none⟩ = some (.int .i64 t2) ∧ v.cell? ⟨Bx, 4, none⟩ = some (.int .i64 wr) ∧ v.cell? ⟨Bx, 5, none⟩ = some (.int .i64 rm) ∧ v.cell? ⟨Bx, 6, none⟩ = some (.int .i64 cl) ∧ v.cell? ⟨Bx, 7, none⟩ = some (.int .i64 sg) := ⟨_, rfl⟩
                obtain ⟨V3, hV3⟩ : ∃ V, V = W'.drew := ⟨_, rfl⟩
                have hdr : Below W'.heap.size W' V3 := by rw [hV3]; exact (Below.refl _ _).drew
                have hS : SS V3 := by rw [hSS]; exact ⟨held_now hdr e4, held_now hdr e8, held_now hdr y0, held_now hdr y1, held_now hdr y2, held_now hdr y3, held_now hdr y4, held_now hdr y5, held_now hdr y6, held_now hdr y7⟩
                have hn4 : b4 ≠ ga ∧ b4 ≠ Tb ∧ b8 ≠ ga ∧ b8 ≠ Tb ∧ Bx ≠ ga ∧ Bx ≠ Tb := by
                  have := HZ.out
                  have := HIX.out.2.1
                  have := HNE.out.l4
                  have := HNE.out.lT
                  omega
                have hSk : ∀ (Y Z : World), SS Y → (∀ (p : Addr) (v : Value), p.block ≠ ga → p.block ≠ Tb → Y.cell? p = some v → Z.cell? p = some v) → SS Z := fun Y Z hY hf => by
                  rw [hSS] at hY ⊢
                  obtain ⟨q4, q8, z0, z1, z2, z3, z4, z5, z6, z7⟩ := hY
                  obtain ⟨n1, n2, n3, n4, n5, n6⟩ := hn4
                  exact ⟨hf _ _ n1 n2 q4, hf _ _ n3 n4 q8, hf _ _ n5 n6 z0, hf _ _ n5 n6 z1, hf _ _ n5 n6 z2, hf _ _ n5 n6 z3, hf _ _ n5 n6 z4, hf _ _ n5 n6 z5, hf _ _ n5 n6 z6, hf _ _ n5 n6 z7⟩
                have HSK := Lib.hid hSk
                have HDR := Lib.hid hdr
                have HSS := Lib.hid hSS
                rw [hV3] at hS
                clear hSk hSS hdr hn4 e4 e50 e51 e60 e61 e7 e8 y0 y1 y2 y3 y4 y5 y6 y7
                have HV3 := Lib.hid hV3
                clear hV3
                refine wpIn_region_held_list (k := 6) lo rfl (fun h => ?_) SS (by kernel_rfl) (by kernel_rfl) ?_
                · obtain ⟨_, _, h⟩ := h; exact h.elim
                rw [← HV3.out] at hS ⊢
                refine tk 0 (.pointer (some ⟨B, 0, none⟩)) rfl (fun w' hw' => by rw [HSS.out] at hw'; obtain ⟨q4, q8, z0, z1, z2, z3, z4, z5, z6, z7⟩ := hw'; go_simp) hS ?_
                refine tk 1 (.slice (some ⟨ga, 0, none⟩) m c8) rfl (fun w' hw' => by rw [HSS.out] at hw'; obtain ⟨q4, q8, z0, z1, z2, z3, z4, z5, z6, z7⟩ := hw'; go_simp) hS ?_
                refine tk 2 (lkV ⟨(f1, f2), (t1, t2), wr, rm, cl, sg⟩) rfl (fun w' hw' => by rw [HSS.out] at hw'; obtain ⟨q4, q8, z0, z1, z2, z3, z4, z5, z6, z7⟩ := hw'; go_simp; rfl) hS ?_
                refine step_list (i := 3) (by kernel_rfl) rfl (by rfl) (fun K hK => ?_)
                dsimp only [lkV, lkC]
                go_simp
                obtain ⟨Wz, hWz⟩ : ∃ Wz, Wz = V3.alloc (.cells #[.int .i64 f1, .int .i64 f2, .int .i64 t1, .int .i64 t2, .int .i64 wr, .int .i64 rm, .int .i64 cl, .int .i64 sg] 114) := ⟨_, rfl⟩
                have hyz : Below V3.heap.size V3 Wz := by rw [hWz]; exact (Below.refl _ _).alloc (Nat.le_refl _) _
                have hz0 : Wz.heap[V3.heap.size]? = some (.cells (lksC [⟨(f1, f2), (t1, t2), wr, rm, cl, sg⟩]).toArray 114 (0, 0)) := by rw [hWz]; exact heap_alloc_last _ _
                rw [← hWz]
                clear hWz
                have hSz : SS Wz := HSK.out _ _ hS fun p v _ _ hv => held_now hyz hv
                refine hK _ _ hSz ?_
                clear hK K
                (try simp only [Act.put, List.setIfInBounds_toArray, List.set_cons_zero, List.set_cons_succ])
                have hxz : Below W'.heap.size W' Wz := HDR.out.trans (hyz.mono HDR.out.size)
                have HXZ := Lib.hid hxz
                refine step_list (i := 4) (by kernel_rfl) rfl (by rfl) (fun K hK => ?_)
                refine wp_push_lk_own (.tmp 45) (.tmp 47) rfl W0.heap.size (some ⟨ga, 0, none⟩) c8 out ⟨(f1, f2), (t1, t2), wr, rm, cl, sg⟩ rfl (own_kept HPx.out.2.2.1 fun k o ho _ => (hxz.block k (heap_lt ho)).trans ho) V3.heap.size rfl hz0 ?_ ?_ ?_
                · have := way_fine HS.out HI.out.1 HK.out.1 HK.out.2.1
                  rw [← HOUT.out, ← HM.out] at this
                  omega
                · have := hxz.size
                  have := HZ.out
                  have := HIX.out.1.2.size
                  omega
                intro A' c' Wt hown' hg'
                have hgt : ∀ (p : Addr) (v : Value), p.block ≠ ga → Wz.cell? p = some v → Wt.cell? p = some v := fun p v h1 hv => hg'.cell hv (fun e => h1 (Option.some.inj e))
                have hSt : SS Wt := HSK.out _ _ hSz fun p v h1 _ hv => hgt p v h1 hv
                have HT := Lib.hid (And.intro hown' hg')
                refine hK _ _ hSt ?_
                clear hK K hown' hg' hgt hz0 hyz hSz hS
                (try simp only [Act.put, List.setIfInBounds_toArray, List.set_cons_zero, List.set_cons_succ])
                have hle : (out ++ [(⟨(f1, f2), (t1, t2), wr, rm, cl, sg⟩ : Lk)]).length = m + 1 := by rw [List.length_append, HM.out]; rfl
                have hHT : HoleL [Tb, b8, ga] W'.heap.size W' Wt := (HoleL.of_below hxz (Nat.le_refl _)).trans (HoleL.of_grown (bs := [Tb, b8, ga]) HT.out.2 (by simp [Value.ownBlock]) hxz.size) (Nat.le_refl _)
                have hwt : Below w00.heap.size w00 Wt := HPx.out.2.1.trans (hHT.below HPx.out.2.1.size (by have := HR.out.2.2.1.2; have := hvW.out.2.size; have := HZ.out; simp; omega))
                have hnB : B ≠ Tb ∧ B ≠ b8 ∧ B ≠ ga ∧ Tb ≠ ga := by have := HZ.out; have := HPx.out.1.bk.ne; omega
                have hbt : BookAt Wt B Tb s fv tj := by
                  have hbz := HPx.out.1.bk.below hxz
                  exact ⟨(HT.out.2.block B (heap_lt hbz.box) (fun e => hnB.2.2.1 (Option.some.inj e))).trans hbz.box, (HT.out.2.block Tb (heap_lt hbz.tab) (fun e => hnB.2.2.2 (Option.some.inj e))).trans hbz.tab, hbz.ne, HR.out.1.below hwt⟩
                have hwf := way_fine HS.out HI.out.1 HK.out.1 HK.out.2.1
                have hlok : Good ⟨(f1, f2), (t1, t2), wr, rm, cl, sg⟩ := HIX.out.2.2
                have hcx : cl < (tj.length : Int) := by
                  rw [← HK.out.2.2.2.2]; exact goal_cell HS.out HI.out.1 HK.out.1 HK.out.2.1
                have HCH := Lib.hid (change_any B Tb s fv tj (out ++ [⟨(f1, f2), (t1, t2), wr, rm, cl, sg⟩]) (.slice A' (m + 1) c') W0.heap.size Wt hbt (by rw [hle]; exact HT.out.1) (by rw [hle]; omega) ⟨by have := HZ.out; omega, by have := HZ.out; omega⟩ (by rw [hle]; have := hwf.1; rw [← HOUT.out, ← HM.out] at this; omega)
                  (fun y hy => by
                    rcases List.mem_append.1 hy with h | h
                    · rw [HOUT.out] at h; exact links_good (tok_in HS.out HI.out.1) y (hwf.2 y h).1
                    · rw [List.mem_singleton.1 h]; exact hlok)
                  (lks_push_cell (fun y hy => by rw [HOUT.out] at hy; exact (hwf.2 y hy).2) hcx) (tat_bd HS.out HI.out.1) w00 HR.out.1 hwt HR.out.2.2.1)
                have HHT := Lib.hid hHT
                clear hle hHT hwt hnB hbt hwf hlok hcx hxz
                refine step_list (i := 5) (by kernel_rfl) rfl (by rfl) (fun K hK => ?_)
                go_simp
                refine HCH.out.mono ?_
                rintro e W5 ⟨rfl, hb5⟩
                have hS5 : SS W5 := HSK.out _ _ hSt fun p v _ h2 hv => by rw [hb5.2.cell (cell_size hv) (by simp; exact h2)]; exact hv
                have H5 := Lib.hid hb5
                refine hK _ _ hS5 ?_
                clear hK K hb5 hSt HCH
                (try simp only [Act.put, List.setIfInBounds_toArray, List.set_cons_zero, List.set_cons_succ])
                refine wpAnyH_done (by kernel_rfl) ?_ _
                rw [HSS.out] at hS5
                obtain ⟨-, q8, -⟩ := hS5
                have h85 : W5.heap[b8]? = some (.cells #[.slice (some ⟨ga, 0, none⟩) m c8] 106 (0, 0)) := by
                  have := HZ.out
                  have h1 := (HXZ.out.block _ (heap_lt HPx.out.2.2.2.1)).trans HPx.out.2.2.2.1
                  have h2 := (HT.out.2.block b8 (heap_lt h1) (fun e => by have h9 := Option.some.inj (show some b8 = some ga from e); omega)).trans h1
                  exact (H5.out.2.block _ (heap_lt h2) (by simp; omega)).trans h2
                have f85 : W5.frozen? ⟨b8, 0, none⟩ = false := frozen_of_row W5 _ 0 _ _ h85
                have H85 := Lib.hid h85
                clear h85 HSS HSK SS
                gi_wp2
                have hH5 : HoleL [Tb, b8, ga] W'.heap.size W' (W5.setCell ⟨b8, 0, none⟩ (.slice none 0 0)) := (HHT.out.trans (H5.out.2.more (cs := [Tb, b8, ga]) (by simp)) HHT.out.size).set (.inl (by simp)) _
                refine ⟨keepsF_hole hH5 rfl (by have := HZ.out; simp; omega), rfl, ⟨pre, _, rfl, HIX.out.1.1, HYES.out, ?_⟩, HIX.out.1.2.more (cs := [Tb, b8, ga]) (by simp) |>.trans hH5 HIX.out.1.2.size, ?_⟩
                · exact heap_far H5.out.1.tab (by have := HZ.out; simp only; omega) _
                · exact heap_setCell_same W5 b8 0 _ _ (.slice none 0 0) H85.out
              · have g4i : decide (wr ≤ 0) = false := decide_eq_false g4
                have hval := HCL.out
                rw [g4i] at hval
                have HVAL := Lib.hid hval
                clear hval g4
                gi_wp2
                exact hfin.out (by rw [HVAL.out]; simp)
            · have g3i : (cl == c) = false := beq_eq_false_iff_ne.2 g3
              have HVAL : Hid (isClose c (d1, d2) (s1, s2) ⟨(f1, f2), (t1, t2), wr, rm, cl, sg⟩ = false) := Lib.hid (by rw [HCL.out]; simp [g3])
              clear g3
              gi_wp2
              exact hfin.out HVAL.out
end Go.Proofs.YtcbhnhoicecnnaaDoor.Hand
namespace Go.Proofs.YtcbhnhoicecnnaaDoor.Hand
set_option linter.unusedVariables false
set_option linter.unusedSimpArgs false
open Go.RowKit Go.Shelf Go.Maps Go.Proofs.YtcbhnhoicecnnaaDoorW.PrintWords Go.Proofs.YtcbhnhoicecnnaaDoorW.PrintLast Go.Proofs.YtcbhnhoicecnnaaDoorW.PrintMore Go.Proofs.YtcbhnhoicecnnaaDoor.PrK
def kCell (m i : Nat) : Kn := .fw (i / m) (i % m)
theorem kCell_is {S : Sh} (hS : S.Ok) {i : Nat} (hi : i < S.cs.length) : (kCell S.m i).Is S := by
  have hm : 0 < S.m := hS.m1
  refine ⟨?_, Nat.mod_lt _ hm⟩
  rw [hS.len] at hi
  exact Nat.div_lt_of_lt_mul (by rw [Nat.mul_comm]; exact hi)
theorem kCell_val {S : Sh} (T : Nat → Int) (i : Nat) : (kCell S.m i).val S T = T i := by
  simp only [kCell, Kn.val]
  rw [Nat.mul_comm, Nat.div_add_mod]
theorem hiL_length {S : Sh} (hS : S.Ok) {κ : Kn} (hg : κ.Goal) (hi : κ.Is S) {t : List Int} (ht : InL S t) (hw : wrongS S (tat t) = 0) : (hiL S κ t).length = t.length ∧ (loL S κ t).length = t.length := by
  obtain ⟨h1, -, h3, -⟩ := ends_is hS hg hi ht hw
  exact ⟨h1.1.trans ht.1.symm, h3.1.trans ht.1.symm⟩
theorem set2_block {W : World} {b : Nat} {t : TypeId} {x y u v : Value} (h : W.heap[b]? = some (.cells #[x, y] t (0, 0))) : ((W.setCell ⟨b, 0, none⟩ u).setCell ⟨b, 1, none⟩ v).heap[b]? = some (.cells #[u, v] t (0, 0)) := by
  have h1 := heap_setCell_same W b 0 _ _ u h
  exact heap_setCell_same _ b 1 _ _ v h1
set_option maxHeartbeats 8000000 in
set_option maxRecDepth 100000 in
theorem span_any (B Tb : Nat) (s : ShM) (fv : Value) (t : List Int) (w : World) (h : BookAt w B Tb s fv t) (hS : s.Ok) (hin : InL s.sh t) (hwr : wrongS s.sh (tat t) = 0) (w00 : World) (hv : VarsAt w00) (hr : ShR w00 s) (hw0 : Below w00.heap.size w00 w) (hwB : w00.heap.size ≤ B ∧ w00.heap.size ≤ Tb)
    (i : Nat) (hi : i < s.l4.length) (lo hi_ : Int) (hlo : lo = tat (loL s.sh (kCell s.sh.m i) t) i) (hhi : hi_ = tat (hiL s.sh (kCell s.sh.m i) t) i) :
    Calls Tryd.prog 63 #[.pointer (some ⟨B, 0, none⟩), .int .i64 i] w fun e w' => e = .returned (.agg #[.int .i64 lo, .int .i64 hi_]) ∧ BookAt w' B Tb s fv (loL s.sh (kCell s.sh.m i) t) ∧ HoleL [Tb] w.heap.size w w' := by
  have hic : i < s.sh.cs.length := by rw [ShM.len4]; exact hi
  have hkis := kCell_is hS hic
  have hlen := hiL_length hS (κ := kCell s.sh.m i) trivial hkis hin hwr
  have hends := ends_is hS (κ := kCell s.sh.m i) trivial hkis hin hwr
  have htl : i < t.length := by rw [hin.1]; exact hic
  have ht := tok_in hS hin
  obtain ⟨q, hq⟩ : ∃ q, q = i / s.l1.length := ⟨_, rfl⟩
  obtain ⟨r, hr'⟩ : ∃ r, r = i % s.l1.length := ⟨_, rfl⟩
  have h25 : i < 25 := by
    have h1 : s.sh.os.length * s.sh.ps.length ≤ 5 * 5 := Nat.mul_le_mul hS.n5 hS.m5
    have := hS.len; omega
  have hdv : Int.tdiv (i : Int) (s.l1.length : Int) = (q : Int) := by rw [hq]; exact (Int.ofNat_tdiv _ _).symm
  have hmd : Int.tmod (i : Int) (s.l1.length : Int) = (r : Int) := by rw [hr']; exact (Int.ofNat_tmod _ _).symm
  have hm1 := ht.m1
  have hm0 : ¬ ((s.l1.length : Int) = 0) := by omega
  have hq5 : (q : Int) < 5 := by have := ht.quo i htl; rw [hq]; omega
  have hr5 : (r : Int) < 5 := by have := ht.m5; have := Nat.mod_lt i (show 0 < s.l1.length by omega); rw [hr']; omega
  have hm1' : ¬ (s.l1 = []) := fun h => by rw [h] at hm1; simp at hm1
  have hqw : IntKind.i64.wrap (q : Int) = (q : Int) := IntWalk.i64_in _ (by omega)
  have hrw : IntKind.i64.wrap (r : Int) = (r : Int) := IntWalk.i64_in _ (by omega)
  have q0 : (0 : Int) ≤ (q : Int) := by omega
  have r0 : (0 : Int) ≤ (r : Int) := by omega
  have i0 : (0 : Int) ≤ (i : Int) := by omega
  have i25 : (i : Int) < 25 := by omega
  have hkap : Hid (kCell s.sh.m i = .fw q r ∧ (kCell s.sh.m i).to_ = (2, (r : Int)) ∧ (kCell s.sh.m i).fr = (1, (q : Int)) ∧ (kCell s.sh.m i).cell s.sh.m = (i : Int)) := Lib.hid (by
    have e : kCell s.sh.m i = .fw q r := by unfold kCell; rw [ShM.len1, hq, hr']
    refine ⟨e, by rw [e]; rfl, by rw [e]; rfl, ?_⟩
    unfold kCell
    simp only [Kn.cell]
    rw [Nat.mul_comm, Nat.div_add_mod])
  obtain ⟨t1, ht1⟩ : ∃ t1, t1 = hiL s.sh (kCell s.sh.m i) t := ⟨_, rfl⟩
  obtain ⟨t2, ht2⟩ : ∃ t2, t2 = loL s.sh (kCell s.sh.m i) t := ⟨_, rfl⟩
  rw [← ht1] at hhi hlen hends
  rw [← ht2] at hlo hlen hends ⊢
  have HK := Lib.hid (And.intro hkis (And.intro hlen (And.intro hends (And.intro ht1 (And.intro ht2 (And.intro hlo hhi))))))
  have HS := Lib.hid (And.intro hS (And.intro hin hwr))
  have HR := Lib.hid (And.intro hr (And.intro hw0 (And.intro hwB hv)))
  have HB := Lib.hid h
  have HTL := Lib.hid htl
  clear hS hin hwr hv hr hw0 hwB hlo hhi hkis hlen hends htl ht hq hr' h25 hm1 hic hi ht1 ht2
  obtain ⟨w1, hw1⟩ : ∃ w1, w1 = w.alloc (.cells #[.int .i64 0, .int .i64 0] 24) := ⟨_, rfl⟩
  obtain ⟨r4, hr4⟩ : ∃ r4, r4 = w.heap.size := ⟨_, rfl⟩
  have hb1 : Below w.heap.size w w1 := by rw [hw1]; exact (Below.refl _ _).alloc (Nat.le_refl _) _
  have h4 : w1.heap[r4]? = some (.cells #[.int .i64 0, .int .i64 0] 24 (0, 0)) := by rw [hw1, hr4]; exact heap_alloc_last _ _
  have HB1 : Hid (BookAt w1 B Tb s fv t ∧ Below w.heap.size w w1 ∧ w1.heap[r4]? = some (.cells #[.int .i64 0, .int .i64 0] 24 (0, 0)) ∧ w.heap.size ≤ r4 ∧ Tb < w.heap.size ∧ B < w.heap.size) := Lib.hid ⟨h.below hb1, hb1, h4, by omega, heap_lt h.tab, heap_lt h.box⟩
  have e5 := HB1.out.1.b1
  clear h hb1 h4
  go_enter Tryd.func63, Tryd.ntmps63
  go_upto_region 1 with fail
  rw [← hw1, ← hr4]
  clear hw1 hr4
  go_cut [5, 6] (fun v5 v6 wc => ∃ g5 g6 : Nat, v5 = .pointer (some ⟨g5, 0, none⟩) ∧ v6 = .pointer (some ⟨g6, 0, none⟩) ∧ Hid (Below w1.heap.size w1 wc) ∧ Hid (wc.cell? ⟨g5, 0, none⟩ = some (.int .i64 1) ∧ wc.cell? ⟨g5, 1, none⟩ = some (.int .i64 q) ∧ wc.cell? ⟨g6, 0, none⟩ = some (.int .i64 2) ∧ wc.cell? ⟨g6, 1, none⟩ = some (.int .i64 r) ∧ w1.heap.size ≤ g5 ∧ w1.heap.size ≤ g6))
  case first =>
    have hS : Below w1.heap.size w1 w1.drew := (Below.refl _ _).drew
    refine wp_region_held_list (k := 22) rfl (fun w' => Below w1.heap.size w1 w') (by kernel_rfl) ?_
    generalize w1.drew = w0 at hS ⊢
    refine tk 0 (.int .i64 i) rfl (fun w' hw' => by go_simp) hS ?_
    refine tk 1 (.pointer (some ⟨B, 0, none⟩)) rfl (fun w' hw' => by go_simp) hS ?_
    refine tk 2 (.pointer (some ⟨B, 0, none⟩)) rfl (fun w' hw' => by have q0' := held_now hw' e5; have qb := held_now hw' HB1.out.1.b0; go_simp) hS ?_
    refine tk 3 (.pointer (some ⟨B, 0, none⟩)) rfl (fun w' hw' => by go_simp) hS ?_
    refine tk 4 (.pointer (some ⟨B, 1, none⟩)) rfl (fun w' hw' => by go_simp) hS ?_
    refine tk 5 (.slice s.A1 s.l1.length s.c1) rfl (fun w' hw' => by have q0' := held_now hw' e5; go_simp) hS ?_
    refine tk 6 (.int .i64 (s.l1.length : Int)) rfl (fun w' hw' => by go_simp) hS ?_
    refine tk 7 (.int .i64 (q : Int)) rfl (fun w' hw' => by go_simp) hS ?_
    refine tk 8 (nodeV (ownN' q)) rfl (fun w' hw' => by go_simp; rfl) hS ?_
    refine tk 9 (.int .i64 i) rfl (fun w' hw' => by go_simp) hS ?_
    refine tk 10 (.pointer (some ⟨B, 0, none⟩)) rfl (fun w' hw' => by go_simp) hS ?_
    refine tk 11 (.pointer (some ⟨B, 0, none⟩)) rfl (fun w' hw' => by have q0' := held_now hw' e5; have qb := held_now hw' HB1.out.1.b0; go_simp) hS ?_
    refine tk 12 (.pointer (some ⟨B, 0, none⟩)) rfl (fun w' hw' => by go_simp) hS ?_
    refine tk 13 (.pointer (some ⟨B, 1, none⟩)) rfl (fun w' hw' => by go_simp) hS ?_
    refine tk 14 (.slice s.A1 s.l1.length s.c1) rfl (fun w' hw' => by have q0' := held_now hw' e5; go_simp) hS ?_
    refine tk 15 (.int .i64 (s.l1.length : Int)) rfl (fun w' hw' => by go_simp) hS ?_
    refine tk 16 (.int .i64 (r : Int)) rfl (fun w' hw' => by go_simp) hS ?_
    refine tk 17 (nodeV (pckN r)) rfl (fun w' hw' => by go_simp; rfl) hS ?_
    clear e5
    (try simp only [Act.put, List.setIfInBounds_toArray, List.set_cons_zero, List.set_cons_succ])
    refine step2_list (i := 18) (j := 19) (by kernel_rfl) rfl rfl (by rfl) (by rfl) (fun K hK => ?_) (fun K hK => ?_)
    · go_simp
      refine hK _ _ (hS.alloc hS.size (.cells #[.int .i64 0, .int .i64 0] 92)) ?_
      clear hK K
      (try simp only [Act.put, List.setIfInBounds_toArray, List.set_cons_zero, List.set_cons_succ])
      refine step_list (i := 19) (by kernel_rfl) rfl (by rfl) (fun K hK => ?_)
      go_simp
      refine hK _ _ ((hS.alloc hS.size (.cells #[.int .i64 0, .int .i64 0] 92)).alloc (by have := hS.size; simp; omega) (.cells #[.int .i64 0, .int .i64 0] 92)) ?_
      clear hK K
      (try simp only [Act.put, List.setIfInBounds_toArray, List.set_cons_zero, List.set_cons_succ])
      refine step_list (i := 20) (by kernel_rfl) rfl (by rfl) (fun K hK => ?_)
      simp only [nodeV, ownN', pckN]
      go_simp
      refine hK _ _ ((hS.alloc hS.size (.cells #[.int .i64 1, .int .i64 (q : Int)] 92)).alloc (by have := hS.size; simp; omega) (.cells #[.int .i64 0, .int .i64 0] 92)) ?_
      clear hK K
      (try simp only [Act.put, List.setIfInBounds_toArray, List.set_cons_zero, List.set_cons_succ])
      refine step_list (i := 21) (by kernel_rfl) rfl (by rfl) (fun K hK => ?_)
      go_simp
      refine hK _ _ ((hS.alloc hS.size (.cells #[.int .i64 1, .int .i64 (q : Int)] 92)).alloc (by have := hS.size; simp; omega) (.cells #[.int .i64 2, .int .i64 (r : Int)] 92)) ?_
      clear hK K
      (try simp only [Act.put, List.setIfInBounds_toArray, List.set_cons_zero, List.set_cons_succ])
      refine wpAnyH_done (by kernel_rfl) ?_ _
      go_wp2_with fail
      go_meet
      case rel => exact ⟨w0.heap.size, w0.heap.size + 1, rfl, rfl, Lib.hid ((hS.alloc hS.size (.cells #[.int .i64 1, .int .i64 (q : Int)] 92)).alloc (by have := hS.size; simp; omega) (.cells #[.int .i64 2, .int .i64 (r : Int)] 92)), Lib.hid ⟨by simp [go_sem], by simp [go_sem], by simp [go_sem], by simp [go_sem], by have := hS.size; omega, by have := hS.size; omega⟩⟩
    · go_simp
      refine hK _ _ (hS.alloc hS.size (.cells #[.int .i64 0, .int .i64 0] 92)) ?_
      clear hK K
      (try simp only [Act.put, List.setIfInBounds_toArray, List.set_cons_zero, List.set_cons_succ])
      refine step_list (i := 18) (by kernel_rfl) rfl (by rfl) (fun K hK => ?_)
      go_simp
      refine hK _ _ ((hS.alloc hS.size (.cells #[.int .i64 0, .int .i64 0] 92)).alloc (by have := hS.size; simp; omega) (.cells #[.int .i64 0, .int .i64 0] 92)) ?_
      clear hK K
      (try simp only [Act.put, List.setIfInBounds_toArray, List.set_cons_zero, List.set_cons_succ])
      refine step_list (i := 20) (by kernel_rfl) rfl (by rfl) (fun K hK => ?_)
      simp only [nodeV, ownN', pckN]
      go_simp
      refine hK _ _ ((hS.alloc hS.size (.cells #[.int .i64 0, .int .i64 0] 92)).alloc (by have := hS.size; simp; omega) (.cells #[.int .i64 1, .int .i64 (q : Int)] 92)) ?_
      clear hK K
      (try simp only [Act.put, List.setIfInBounds_toArray, List.set_cons_zero, List.set_cons_succ])
      refine step_list (i := 21) (by kernel_rfl) rfl (by rfl) (fun K hK => ?_)
      go_simp
      refine hK _ _ ((hS.alloc hS.size (.cells #[.int .i64 2, .int .i64 (r : Int)] 92)).alloc (by have := hS.size; simp; omega) (.cells #[.int .i64 1, .int .i64 (q : Int)] 92)) ?_
      clear hK K
      (try simp only [Act.put, List.setIfInBounds_toArray, List.set_cons_zero, List.set_cons_succ])
      refine wpAnyH_done (by kernel_rfl) ?_ _
      go_wp2_with fail
      go_meet
      case rel => exact ⟨w0.heap.size + 1, w0.heap.size, rfl, rfl, Lib.hid ((hS.alloc hS.size (.cells #[.int .i64 2, .int .i64 (r : Int)] 92)).alloc (by have := hS.size; simp; omega) (.cells #[.int .i64 1, .int .i64 (q : Int)] 92)), Lib.hid ⟨by simp [go_sem], by simp [go_sem], by simp [go_sem], by simp [go_sem], by have := hS.size; omega, by have := hS.size; omega⟩⟩
  case rest =>
    obtain ⟨g5, g6, rfl, rfl, HBc, HNd⟩ := hcut
    clear e5
    obtain ⟨w2, hw2⟩ : ∃ w2, w2 = wc.alloc (.cells #[.int .i64 0, .int .i64 0] 24) := ⟨_, rfl⟩
    obtain ⟨r7, hr7⟩ : ∃ r7, r7 = wc.heap.size := ⟨_, rfl⟩
    have H2 : Hid (BookAt w2 B Tb s fv t ∧ Below w.heap.size w w2 ∧ w2.heap[r4]? = some (.cells #[.int .i64 0, .int .i64 0] 24 (0, 0)) ∧ w2.heap[r7]? = some (.cells #[.int .i64 0, .int .i64 0] 24 (0, 0)) ∧ w2.cell? ⟨g5, 0, none⟩ = some (.int .i64 1) ∧ w2.cell? ⟨g5, 1, none⟩ = some (.int .i64 q) ∧ w2.cell? ⟨g6, 0, none⟩ = some (.int .i64 2) ∧ w2.cell? ⟨g6, 1, none⟩ = some (.int .i64 r)) := Lib.hid (by
      have hb2 : Below wc.heap.size wc w2 := by rw [hw2]; exact (Below.refl _ _).alloc (Nat.le_refl _) _
      have hb3 : Below w1.heap.size w1 w2 := HBc.out.trans (hb2.mono HBc.out.size)
      obtain ⟨z1, z2, z3, z4, -⟩ := HNd.out
      exact ⟨HB1.out.1.below hb3, HB1.out.2.1.trans (hb3.mono HB1.out.2.1.size), (hb3.block _ (heap_lt HB1.out.2.2.1)).trans HB1.out.2.2.1, by rw [hw2, hr7]; exact heap_alloc_last _ _, held_now hb2 z1, held_now hb2 z2, held_now hb2 z3, held_now hb2 z4⟩)
    have HNE : Hid (r7 ≠ r4 ∧ g5 ≠ r7 ∧ g6 ≠ r7 ∧ g5 ≠ r4 ∧ g6 ≠ r4 ∧ w.heap.size ≤ r7 ∧ w.heap.size ≤ r4 ∧ w.heap.size ≤ g5 ∧ w.heap.size ≤ g6 ∧ Tb < w.heap.size ∧ B < w.heap.size) := Lib.hid (by
      have a1 := heap_lt HB1.out.2.2.1
      have a2 := HBc.out.size
      have a3 := HB1.out.2.1.size
      have a4 := HB1.out.2.2.2
      have a5 := HNd.out.2.2.2.2
      have a6 := cell_size HNd.out.1
      have a7 := cell_size HNd.out.2.2.1
      simp only at a6 a7
      omega)
    have hlow : Hid (Below w00.heap.size w00 w2) := Lib.hid (HR.out.2.1.trans (H2.out.2.1.mono HR.out.2.1.size))
    have HP := Lib.hid (push_any (kCell s.sh.m i) trivial B Tb s HK.out.1 fv t w2 H2.out.1 HS.out.1 HS.out.2.1 HS.out.2.2 w00 HR.out.2.2.2 HR.out.1 hlow.out HR.out.2.2.1 2 (r : Int) 1 (q : Int) (i : Int) hkap.out.2.1 hkap.out.2.2.1 hkap.out.2.2.2)
    obtain ⟨z1, z2, z3, z4⟩ := H2.out.2.2.2.2
    clear HBc HNd
    go_upto_region 3 with fail
    rw [← hw2, ← hr7]
    clear hw2 hr7
    go_upto_region 4 with (go_at_call 65; refine HP.out.mono ?_; rintro e W3 ⟨rfl, h3⟩; have H3 := Lib.hid h3; clear h3)
    have H3b : Hid (BookAt W3 B Tb s fv t1 ∧ HoleL [Tb] w2.heap.size w2 W3) := Lib.hid (by
      have h := H3.out
      rw [show pushL s.sh (kCell s.sh.m i) 20000 t = t1 from HK.out.2.2.2.1.symm] at h
      exact h)
    have g3 : ∀ {k : Nat} {o : Obj}, w2.heap[k]? = some o → k ≠ Tb → W3.heap[k]? = some o := fun {k o} ho hk => (H3b.out.2.block k (heap_lt ho) (by simp; exact hk)).trans ho
    have c3 : ∀ {p : Addr} {v : Value}, w2.cell? p = some v → p.block ≠ Tb → W3.cell? p = some v := fun {p v} ho hk => by rw [H3b.out.2.cell (cell_size ho) (by simp; exact hk)]; exact ho
    have hne := HNE.out
    have a1 := c3 z1 (by simp only; omega)
    have a2 := c3 z2 (by simp only; omega)
    have a3 := c3 z3 (by simp only; omega)
    have a4 := c3 z4 (by simp only; omega)
    have k7 := g3 H2.out.2.2.2.1 (by omega)
    have k4 := g3 H2.out.2.2.1 (by omega)
    have f7 := frozen_of_row W3 r7 1 _ _ k7
    have d7 := cell_of_row W3 r7 1 _ _ _ k7
    have b0 := H3b.out.1.b0
    have b5 := H3b.out.1.b5
    have hl1 : t1.length = t.length := HK.out.2.1.1
    have htb := H3b.out.1.tb (i := i) (by rw [hl1]; exact HTL.out)
    rw [← HK.out.2.2.2.2.2.2] at htb
    have hil : (i : Int) < (t1.length : Int) := by rw [hl1]; have := HTL.out; omega
    have HL1 := Lib.hid hl1
    obtain ⟨W4, hW4⟩ : ∃ W4, W4 = W3.setCell ⟨r7, 1, none⟩ (.int .i64 hi_) := ⟨_, rfl⟩
    have q7 : W4.heap[r7]? = some (.cells #[.int .i64 0, .int .i64 hi_] 24 (0, 0)) := by rw [hW4]; exact heap_setCell_same W3 r7 1 _ _ _ k7
    have g4 : ∀ {k : Nat} {o : Obj}, W3.heap[k]? = some o → k ≠ r7 → W4.heap[k]? = some o := fun {k o} ho hk => by rw [hW4]; exact heap_far ho (by simp only; exact hk) _
    have c4 : ∀ {p : Addr} {v : Value}, W3.cell? p = some v → p.block ≠ r7 → W4.cell? p = some v := fun {p v} ho hk => by
      rw [World.cell?_of_block (w := W3) (show W4.heap[p.block]? = W3.heap[p.block]? from by rw [hW4]; exact heap_setCell_other _ _ _ _ (by simp only; exact hk))]; exact ho
    have hole4 : HoleL [Tb, r7] w2.heap.size w2 W4 := by rw [hW4]; exact (H3b.out.2.more (cs := [Tb, r7]) (by simp)).set (.inl (by simp)) _
    have low4 : Below w00.heap.size w00 W4 := hlow.out.trans (hole4.below hlow.out.size (by have := HR.out.2.2.1; have := HR.out.2.1.size; simp; omega))
    have H4 : Hid (BookAt W4 B Tb s fv t1 ∧ W4.heap[r4]? = some (.cells #[.int .i64 0, .int .i64 0] 24 (0, 0)) ∧ W4.heap[r7]? = some (.cells #[.int .i64 0, .int .i64 hi_] 24 (0, 0)) ∧ HoleL [Tb, r7] w2.heap.size w2 W4) := Lib.hid ⟨⟨g4 H3b.out.1.box (by omega), g4 H3b.out.1.tab (by omega), H3b.out.1.ne, HR.out.1.below low4⟩, g4 k4 (by omega), q7, hole4⟩
    have e1 := c4 a1 (by simp only; omega)
    have e2 := c4 a2 (by simp only; omega)
    have e3 := c4 a3 (by simp only; omega)
    have e4 := c4 a4 (by simp only; omega)
    have HP2 := Lib.hid (push_any (kCell s.sh.m i).rev (rev_goal trivial) B Tb s (rev_is trivial HK.out.1) fv t1 W4 H4.out.1 HS.out.1 HK.out.2.2.1.1 HK.out.2.2.1.2.1 w00 HR.out.2.2.2 HR.out.1 low4 HR.out.2.2.1 1 (q : Int) 2 (r : Int) (i : Int)
      (by rw [hkap.out.1]; rfl) (by rw [hkap.out.1]; rfl) (by rw [← hkap.out.2.2.2, hkap.out.1]; rfl))
    have LOW4 := Lib.hid low4
    clear hne k7 k4 q7 g4 c4 hole4 low4 g3 c3 hl1 z1 z2 z3 z4
    go_upto_region 5 with fail
    rw [← hW4]
    clear hW4 a1 a2 a3 a4 f7 d7 b0 b5 htb hil
    go_upto_region 6 with (go_at_call 65; refine HP2.out.mono ?_; rintro e W5 ⟨rfl, h5⟩; have H5 := Lib.hid h5; clear h5)
    have H5b : Hid (BookAt W5 B Tb s fv t2 ∧ HoleL [Tb] W4.heap.size W4 W5) := Lib.hid (by
      have h := H5.out
      have e : pushL s.sh (kCell s.sh.m i).rev 20000 t1 = t2 := by rw [HK.out.2.2.2.2.1, HK.out.2.2.2.1]; rfl
      rw [e] at h
      exact h)
    have g5' : ∀ {k : Nat} {o : Obj}, W4.heap[k]? = some o → k ≠ Tb → W5.heap[k]? = some o := fun {k o} ho hk => (H5b.out.2.block k (heap_lt ho) (by simp; exact hk)).trans ho
    have hne := HNE.out
    have k7 := g5' H4.out.2.2.1 (by omega)
    have k4 := g5' H4.out.2.1 (by omega)
    have f7 := frozen_of_row W5 r7 0 _ _ k7
    have d7 := cell_of_row W5 r7 0 _ _ _ k7
    have b0 := H5b.out.1.b0
    have b5 := H5b.out.1.b5
    have hl2 : t2.length = t.length := HK.out.2.1.2
    have htb := H5b.out.1.tb (i := i) (by rw [hl2]; exact HTL.out)
    rw [← HK.out.2.2.2.2.2.1] at htb
    have hil : (i : Int) < (t2.length : Int) := by rw [hl2]; have := HTL.out; omega
    obtain ⟨W6, hW6⟩ : ∃ W6, W6 = W5.setCell ⟨r7, 0, none⟩ (.int .i64 lo) := ⟨_, rfl⟩
    have q7 : W6.heap[r7]? = some (.cells #[.int .i64 lo, .int .i64 hi_] 24 (0, 0)) := by rw [hW6]; exact heap_setCell_same W5 r7 0 _ _ _ k7
    have q4 : W6.heap[r4]? = some (.cells #[.int .i64 0, .int .i64 0] 24 (0, 0)) := by rw [hW6]; exact heap_far k4 (by simp only; omega) _
    have m0 : W6.cell? ⟨r7, 0, none⟩ = some (.int .i64 lo) := by rw [cell_of_row _ _ _ _ _ _ q7]; rfl
    have m1 : W6.cell? ⟨r7, 1, none⟩ = some (.int .i64 hi_) := by rw [cell_of_row _ _ _ _ _ _ q7]; rfl
    have n0 : W6.cell? ⟨r4, 0, none⟩ = some (.int .i64 0) := by rw [cell_of_row _ _ _ _ _ _ q4]; rfl
    have n1 : W6.cell? ⟨r4, 1, none⟩ = some (.int .i64 0) := by rw [cell_of_row _ _ _ _ _ _ q4]; rfl
    have fr0 := frozen_of_row W6 r4 0 _ _ q4
    have fr1 := frozen_of_row W6 r4 1 _ _ q4
    have hole6 : HoleL [Tb, r7, r4] w2.heap.size w2 W6 := by rw [hW6]; exact ((H4.out.2.2.2.more (cs := [Tb, r7, r4]) (by simp)).trans (H5b.out.2.more (cs := [Tb, r7, r4]) (by simp)) H4.out.2.2.2.size).set (.inl (by simp)) _
    have bx6 : W6.heap[B]? = some (.cells (bookC s (.slice (some ⟨Tb, 0, none⟩) t2.length t2.length) fv) 79 (0, 0)) := by rw [hW6]; exact heap_far H5b.out.1.box (by simp only; omega) _
    have tb6 : W6.heap[Tb]? = some (.cells (nums .i64 t2).toArray 2 (0, 0)) := by rw [hW6]; exact heap_far H5b.out.1.tab (by simp only; omega) _
    have H6 := Lib.hid (And.intro q4 (And.intro hole6 (And.intro bx6 tb6)))
    clear hne k7 k4 q7 q4 hole6 bx6 tb6 g5' hl2 e1 e2 e3 e4
    go_upto_region 7 with fail
    rw [← hW6]
    clear hW6 f7 d7 b0 b5 htb hil
    go_wp2_with fail
    have hz := set2_block (u := .int .i64 lo) (v := .int .i64 hi_) H6.out.1
    have hhole := (H6.out.2.1.set (p := ⟨r4, 0, none⟩) (.inl (by simp)) (.int .i64 lo)).set (p := ⟨r4, 1, none⟩) (.inl (by simp)) (.int .i64 hi_)
    have hne := HNE.out
    obtain ⟨Wz, hWz⟩ : ∃ Wz, Wz = (W6.setCell ⟨r4, 0, none⟩ (.int .i64 lo)).setCell ⟨r4, 1, none⟩ (.int .i64 hi_) := ⟨_, rfl⟩
    have hbx : Wz.heap[B]? = some (.cells (bookC s (.slice (some ⟨Tb, 0, none⟩) t2.length t2.length) fv) 79 (0, 0)) := by rw [hWz]; exact heap_far (heap_far H6.out.2.2.1 (by simp only; omega) _) (by simp only; omega) _
    have htb : Wz.heap[Tb]? = some (.cells (nums .i64 t2).toArray 2 (0, 0)) := by rw [hWz]; exact heap_far (heap_far H6.out.2.2.2 (by simp only; omega) _) (by simp only; omega) _
    rw [← hWz] at hz hhole ⊢
    have hwz : HoleL [Tb] w.heap.size w Wz := ((HoleL.of_below H2.out.2.1 (Nat.le_refl _)).trans hhole H2.out.2.1.size).more (cs := [Tb]) (fun b hb => by simp at hb; rcases hb with rfl | rfl | rfl; exact .inl (by simp); exact .inr (by omega); exact .inr (by omega))
    refine bodyPost_ret (results_cell_row rfl _ _ r4 24 #[.int .i64 lo, .int .i64 hi_] (0, 0) _ rfl hz Tryd.underlying24 rfl (by kernel_rfl)) rfl ?_
    exact ⟨rfl, ⟨hbx, htb, HB.out.ne, HR.out.1.below (HR.out.2.1.trans (hwz.below HR.out.2.1.size (by simp; exact HR.out.2.2.1.2)))⟩, hwz⟩
theorem infoI64 : (Tryd.prog.info? 2).map (fun i => (i.zero, i.size, i.bytes)) = some (some (.int .i64 0), 1, 8) := by kernel_rfl
theorem made_zeros (n : Nat) : madeCells #[.int .i64 0] (n * 1) = (nums .i64 (List.replicate n 0)).toArray := by
  apply Array.ext'
  simp [madeCells, nums]
  apply List.ext_getElem
  · simp
  · intro i h1 h2
    simp [Nat.mod_one]
theorem run_make_zeros (w : World) (n : Nat) (hn : n ≤ 1000) : (Instr.makeSlice 27 (.int .i64 (n : Int)) (.int .i64 (n : Int))).run Tryd.prog w = .ok (.slice (some ⟨w.heap.size, 0, none⟩) n n) (w.alloc (.cells (nums .i64 (List.replicate n 0)).toArray 2)) := by
  obtain ⟨i0, hi, hz0, hz1, hz2⟩ := info_parts infoI64
  have h := run_make (P := Tryd.prog) w 27 2 i0 (.int .i64 0) Tryd.underlying27 hi hz0 .i64 .i64 n n (by omega) (Int.le_refl _) (by rw [hz2]; omega) (by omega)
  rw [hz1, Int.toNat_natCast, show (Value.int .i64 0).cells = #[.int .i64 0] from rfl, made_zeros] at h
  exact h
def tbK (s : ShM) (k : Nat) : List Int := (List.range s.l4.length).map fun i => if i < k then (rgAt s.sh.cs i).1 else 0
theorem tbK_length (s : ShM) (k : Nat) : (tbK s k).length = s.l4.length := by simp [tbK]
theorem tbK_zero (s : ShM) : tbK s 0 = List.replicate s.l4.length 0 := by
  unfold tbK
  simp only [Nat.not_lt_zero, if_false]
  rw [List.map_const', List.length_range]
theorem tbK_succ (s : ShM) {k : Nat} (h : k < s.l4.length) : tbK s (k + 1) = (tbK s k).set k (rgAt s.sh.cs k).1 := by
  apply List.ext_getElem
  · simp [tbK]
  · intro i h1 h2
    simp only [tbK, List.getElem_map, List.getElem_range, List.getElem_set]
    by_cases e : k = i
    · subst e; simp
    · rw [if_neg e]
      by_cases g : i < k
      · rw [if_pos g, if_pos (by omega)]
      · rw [if_neg g, if_neg (by omega)]
theorem tbK_end (s : ShM) : tbK s s.l4.length = leastT s.sh := by
  unfold tbK leastT
  apply List.ext_getElem
  · simp [ShM.sh, shL]
  · intro i h1 h2
    have hi : i < s.l4.length := by simpa using h1
    simp only [List.getElem_map, List.getElem_range, if_pos hi]
    unfold rgAt
    rw [List.getD_eq_getElem?_getD, List.getElem?_eq_getElem (by simpa [ShM.sh, shL] using hi)]
    rfl
set_option maxHeartbeats 4000000 in
set_option maxRecDepth 100000 in
theorem newBook_any (s : ShM) (w : World) (h : ShR w s) (hl : s.l4.length ≤ 25) :
    Calls Tryd.prog 70 #[.agg #[.slice s.A0 s.l0.length s.c0, .slice s.A1 s.l1.length s.c1, .int .i64 s.a2, .int .i64 s.a3, .slice s.A4 s.l4.length s.c4]] w fun e w' => ∃ B Tb, e = .returned (.pointer (some ⟨B, 0, none⟩)) ∧ BookAt w' B Tb s (.map none) (leastT s.sh) ∧ w.heap.size ≤ B ∧ w.heap.size ≤ Tb ∧ Below w.heap.size w w' := by
  have HR := Lib.hid h
  have l25 : (s.l4.length : Int) ≤ 25 := by omega
  obtain ⟨W, hW⟩ : ∃ W, W = w.alloc (.cells #[.slice s.A0 s.l0.length s.c0, .slice s.A1 s.l1.length s.c1, .int .i64 s.a2, .int .i64 s.a3, .slice s.A4 s.l4.length s.c4] 26) := ⟨_, rfl⟩
  have hb : Below w.heap.size w W := by rw [hW]; exact (Below.refl _ _).alloc (Nat.le_refl _) _
  have hX : W.heap[w.heap.size]? = some (.cells #[.slice s.A0 s.l0.length s.c0, .slice s.A1 s.l1.length s.c1, .int .i64 s.a2, .int .i64 s.a3, .slice s.A4 s.l4.length s.c4] 26 (0, 0)) := by rw [hW]; exact heap_alloc_last _ _
  have hc : ∀ j, W.cell? ⟨w.heap.size, j, none⟩ = _ := fun j => cell_of_row W w.heap.size j _ _ _ hX
  have x0 : W.cell? ⟨w.heap.size, 0, none⟩ = some (.slice s.A0 s.l0.length s.c0) := hc 0
  have x1 : W.cell? ⟨w.heap.size, 1, none⟩ = some (.slice s.A1 s.l1.length s.c1) := hc 1
  have x2 : W.cell? ⟨w.heap.size, 2, none⟩ = some (.int .i64 s.a2) := hc 2
  have x3 : W.cell? ⟨w.heap.size, 3, none⟩ = some (.int .i64 s.a3) := hc 3
  have x4 : W.cell? ⟨w.heap.size, 4, none⟩ = some (.slice s.A4 s.l4.length s.c4) := hc 4
  have HX := Lib.hid (And.intro hX hb)
  clear hX hc hb h
  go_enter Tryd.func70, Tryd.ntmps70
  go_upto_region 1 with fail
  rw [← hW]
  clear hW
  have hS : Below W.heap.size W W.drew := (Below.refl _ _).drew
  refine wp_region_held_list (k := 8) rfl (fun w' => Below W.heap.size W w') (by kernel_rfl) ?_
  generalize W.drew = W0 at hS ⊢
  refine tk 0 (.agg #[.slice s.A0 s.l0.length s.c0, .slice s.A1 s.l1.length s.c1, .int .i64 s.a2, .int .i64 s.a3, .slice s.A4 s.l4.length s.c4]) rfl (fun w' hw' => by have q0 := held_now hw' x0; have q1 := held_now hw' x1; have q2 := held_now hw' x2; have q3 := held_now hw' x3; have q4 := held_now hw' x4; go_simp) hS ?_
  refine tk 1 (.pointer (some ⟨w.heap.size, 4, none⟩)) rfl (fun w' hw' => by go_simp) hS ?_
  refine tk 2 (.slice s.A4 s.l4.length s.c4) rfl (fun w' hw' => by have q4 := held_now hw' x4; go_simp) hS ?_
  refine tk 3 (.int .i64 (s.l4.length : Int)) rfl (fun w' hw' => by go_simp) hS ?_
  have hmk := run_make_zeros W0 s.l4.length (by omega)
  refine step_list (i := 4) (by kernel_rfl) rfl (by rfl) (fun K hK => ?_)
  go_simp
  obtain ⟨W5, hW5⟩ : ∃ W5, W5 = W0.alloc (.cells (nums .i64 (List.replicate s.l4.length 0)).toArray 2) := ⟨_, rfl⟩
  have hb5 : Below W0.heap.size W0 W5 := by rw [hW5]; exact (Below.refl _ _).alloc (Nat.le_refl _) _
  have hT5 : W5.heap[W0.heap.size]? = some (.cells (nums .i64 (List.replicate s.l4.length 0)).toArray 2 (0, 0)) := by rw [hW5]; exact heap_alloc_last _ _
  have hS5 : Below W.heap.size W W5 := hS.trans (hb5.mono hS.size)
  rw [← hW5]
  obtain ⟨Tb, hTb⟩ : ∃ b, b = W0.heap.size := ⟨_, rfl⟩
  rw [← hTb] at hT5 ⊢
  have HTb := Lib.hid hTb
  refine hK _ _ hS5 ?_
  clear hK K hW5 hmk hTb
  (try simp only [Act.put, List.setIfInBounds_toArray, List.set_cons_zero, List.set_cons_succ])
  refine take_list (i := 5) (v := .agg (bookC s (.slice (some ⟨Tb, 0, none⟩) s.l4.length s.l4.length) (.map none))) rfl (by kernel_rfl) (by kernel_rfl) (by kernel_rfl) (fun _ _ _ h => h) (by rfl) (by intro w' hw'; go_simp; rfl) hS5 ?_
  (try simp only [Act.put, List.setIfInBounds_toArray, List.set_cons_zero, List.set_cons_succ])
  refine step_list (i := 6) (by kernel_rfl) rfl (by rfl) (fun K hK => ?_)
  unfold bookC
  go_simp
  obtain ⟨W6, hW6⟩ : ∃ W6, W6 = W5.alloc (.cells (bookC s (.slice (some ⟨Tb, 0, none⟩) s.l4.length s.l4.length) (.map none)) 79) := ⟨_, rfl⟩
  have hb6 : Below W5.heap.size W5 W6 := by rw [hW6]; exact (Below.refl _ _).alloc (Nat.le_refl _) _
  have hB6 : W6.heap[W5.heap.size]? = some (.cells (bookC s (.slice (some ⟨Tb, 0, none⟩) s.l4.length s.l4.length) (.map none)) 79 (0, 0)) := by rw [hW6]; exact heap_alloc_last _ _
  have hS6 : Below W.heap.size W W6 := hS5.trans (hb6.mono hS5.size)
  unfold bookC at hW6
  rw [← hW6]
  obtain ⟨B, hB⟩ : ∃ b, b = W5.heap.size := ⟨_, rfl⟩
  rw [← hB] at hB6 ⊢
  have HBh := Lib.hid hB
  clear hB
  have h6w : Below w.heap.size w W6 := HX.out.2.trans (hS6.mono HX.out.2.size)
  have HBK : Hid (BookAt W6 B Tb s (.map none) (tbK s 0) ∧ Below w.heap.size w W6 ∧ w.heap.size ≤ B ∧ w.heap.size ≤ Tb) := Lib.hid (by
    have h1 := HX.out.2.size
    have h2 := hS.size
    have h3 := heap_lt hT5
    have h4 := HTb.out
    have h5 := HBh.out
    refine ⟨⟨by rw [tbK_length]; exact hB6, by rw [tbK_zero]; exact (hb6.block _ (heap_lt hT5)).trans hT5, by omega, HR.out.below h6w⟩, h6w, by omega, by omega⟩)
  have z4 := held_now hS6 x4
  refine hK _ _ hS6 ?_
  clear hK K hW6
  (try simp only [Act.put, List.setIfInBounds_toArray, List.set_cons_zero, List.set_cons_succ])
  refine step_list (i := 7) (by kernel_rfl) rfl (by rfl) (fun K hK => ?_)
  go_simp
  refine hK _ _ hS6 ?_
  clear hK K hS hS5 hS6 hb5 hb6 hT5 hB6 h6w x0 x1 x2 x3 x4
  (try simp only [Act.put, List.setIfInBounds_toArray, List.set_cons_zero, List.set_cons_succ])
  refine wpAnyH_done (by kernel_rfl) ?_ _
  go_wp2_with fail
  clear z4
  go_loopw [16] (fun i wr => ∃ k : Nat, k ≤ s.l4.length ∧ i = .int .i64 k ∧ Hid (BookAt wr B Tb s (.map none) (tbK s k) ∧ Below w.heap.size w wr)) (fun i _ => 60 - (intOf i).toNat)
  case atStart => exact ⟨0, Nat.zero_le _, rfl, Lib.hid ⟨HBK.out.1, HBK.out.2.1⟩⟩
  case round =>
    obtain ⟨k, hk, rfl, HK⟩ := hrel
    by_cases hlt : k < s.l4.length
    · have hlti : (k : Int) < (s.l4.length : Int) := by omega
      have p0 : (0 : Int) ≤ (k : Int) := by omega
      obtain ⟨a0, hae, h1, h2⟩ := at_rg HK.out.1.rd.r4 hlt
      obtain ⟨g1, hg1⟩ : ∃ g, g = (rgAt (s.l4.map pr) k).1 := ⟨_, rfl⟩
      obtain ⟨g2, hg2⟩ : ∃ g, g = (rgAt (s.l4.map pr) k).2 := ⟨_, rfl⟩
      rw [← hg1] at h1
      rw [← hg2] at h2
      have HG : Hid (tbK s (k + 1) = (tbK s k).set k g1) := Lib.hid (by rw [tbK_succ s hlt, hg1]; rfl)
      obtain ⟨wa, hwa⟩ : ∃ wa, wa = wr.alloc (.cells #[.int .i64 g1, .int .i64 g2] 24) := ⟨_, rfl⟩
      have hba : Below wr.heap.size wr wa := by rw [hwa]; exact (Below.refl _ _).alloc (Nat.le_refl _) _
      have a1 : wa.cell? ⟨wr.heap.size, 0, none⟩ = some (.int .i64 g1) := by rw [hwa]; simp [go_sem]
      have HA := Lib.hid (And.intro (HK.out.1.below hba) (HK.out.2.trans (hba.mono HK.out.2.size)))
      have b5 := HA.out.1.b5
      rw [tbK_length] at b5
      clear hg1 hg2 hba
      go_upto_region 5 with fail
      rw [← hwa]
      clear hwa h1 h2
      have q1 := kept_cell' a1
      have q5 := kept_cell' b5
      refine wp_region_kept_tail 7 wa.heap.size wa (by kernel_rfl) (by kernel_rfl) (Below.refl _ _) ?_
      simp only [List.take_succ_cons, List.take_zero, List.drop_succ_cons, List.drop_zero]
      repeat (go_big_quiet_step (fail))
      refine wpQuiet_nil ?_
      rintro _ ⟨X, rfl⟩
      obtain ⟨V, hV⟩ : ∃ V, V = X.1 := ⟨_, rfl⟩
      have hX := X.2
      rw [← hV] at hX ⊢
      clear hV X q1 q5 a1 b5
      have hBV := HA.out.1.below hX
      have fV := hBV.freeT k
      have tV := hBV.tb (i := k) (by rw [tbK_length]; exact hlt)
      have HV := Lib.hid (And.intro hBV (HA.out.2.trans (hX.mono HA.out.2.size)))
      clear hBV hX
      go_wp2_with fail
      clear hae
      go_roundw
      case rel =>
        refine ⟨k + 1, by omega, by go_num, Lib.hid ⟨?_, below_setB HV.out.2 HBK.out.2.2.2 _⟩⟩
        rw [HG.out]
        exact HV.out.1.setT HR.out HV.out.2 HBK.out.2.2.2 k g1
      case measure => simp [intOf]; omega
    · have hnl : ¬ ((k : Int) < (s.l4.length : Int)) := by omega
      have HE : Hid (tbK s k = leastT s.sh) := Lib.hid (by rw [show k = s.l4.length by omega, tbK_end])
      go_wp2_with fail
      go_ret
      exact ⟨B, rfl, Tb, by rw [← HE.out]; exact HK.out.1, HBK.out.2.2.1, HBK.out.2.2.2, HK.out.2⟩
def oddB (r : Int × Int) : Bool := decide (r.2 < r.1) || (outB 0 1000 r.1 || outB 0 1000 r.2)
theorem odd_iff (r : Int × Int) : oddB r = false ↔ RgOk r := by
  unfold oddB outB RgOk
  simp only [Bool.or_eq_false_iff, decide_eq_false_iff_not]
  omega
set_option maxHeartbeats 4000000 in
set_option maxRecDepth 100000 in
theorem odd_any (r1 r2 : Int) (w : World) : Calls Tryd.prog 53 #[.agg #[.int .i64 r1, .int .i64 r2]] w fun e w' => e = .returned (.bool (oddB (r1, r2))) ∧ Below w.heap.size w w' := by
  obtain ⟨W, hW⟩ : ∃ W, W = w.alloc (.cells #[.int .i64 r1, .int .i64 r2] 24) := ⟨_, rfl⟩
  have hb : Below w.heap.size w W := by rw [hW]; exact (Below.refl _ _).alloc (Nat.le_refl _) _
  have c0 : W.cell? ⟨w.heap.size, 0, none⟩ = some (.int .i64 r1) := by rw [hW]; simp [go_sem]
  have c1 : W.cell? ⟨w.heap.size, 1, none⟩ = some (.int .i64 r2) := by rw [hW]; simp [go_sem]
  have HB := Lib.hid hb
  have HWI := Lib.hid (within2 0 1000 r1 r2 W)
  obtain ⟨ob, hob⟩ : ∃ ob, ob = oddB (r1, r2) := ⟨_, rfl⟩
  have HO := Lib.hid hob
  rw [← hob]
  clear hb hob
  go_enter Tryd.func53, Tryd.ntmps53
  go_upto_region 1 with fail
  rw [← hW]
  clear hW
  by_cases g : r2 < r1
  · have HV : Hid (ob = true) := Lib.hid (by rw [HO.out, oddB]; simp [g])
    go_wp2_with fail
    go_ret
    exact ⟨by rw [HV.out]; rfl, HB.out⟩
  · obtain ⟨q, hq⟩ : ∃ q, q = (outB 0 1000 r1 || outB 0 1000 r2) := ⟨_, rfl⟩
    have HV : Hid (ob = q) := Lib.hid (by rw [HO.out, oddB, hq]; simp [g])
    rw [← hq] at HWI
    clear hq
    go_wp2_with (first | (go_at_call 51; refine HWI.out.mono ?_; rintro e w5 ⟨rfl, h5⟩; have H5 := Lib.hid h5; clear h5))
    go_ret
    exact ⟨by rw [HV.out]; cases q <;> rfl, HB.out.trans (H5.out.mono HB.out.size)⟩
set_option maxHeartbeats 2000000 in
set_option maxRecDepth 100000 in
theorem indexOdd_any (A : Option Addr) (c : Nat) (l : List S24) (w : World) (hr : Kd.C k24 w A l.length l) (hl : l.length ≤ maxLen) :
    Calls Tryd.prog 76 #[.slice A l.length c, .func (.func 53) #[] #[]] w
      fun e w' => (∃ r : Int, e = .returned (.int .i64 r) ∧ decide (0 ≤ r) = (l.map pr).any oddB) ∧ Below w.heap.size w w' := by
  have hm : l.length ≤ 9223372036854775807 := by unfold maxLen at hl; omega
  have HR := Lib.hid hr
  obtain ⟨res, hres⟩ : ∃ res, res = (l.map pr).any oddB := ⟨_, rfl⟩
  have HRS := Lib.hid hres
  rw [← hres]
  clear hr hl hres
  go_enter Tryd.func76, Tryd.ntmps76
  go_wp2
  go_loopw [8] (fun i wr => ∃ k : Nat, k ≤ l.length ∧ i = .int .i64 k ∧ Hid (((l.map pr).take k).any oddB = false ∧ Below w.heap.size w wr)) (fun i _ => l.length - (intOf i).toNat)
  case atStart => exact ⟨0, Nat.zero_le _, rfl, Lib.hid ⟨by simp, Below.refl _ _⟩⟩
  case round =>
    obtain ⟨k, hk, rfl, HA⟩ := hrel
    by_cases hlt : k < l.length
    · have hlti : (k : Int) < (l.length : Int) := by omega
      have p0 : (0 : Int) ≤ (k : Int) := by omega
      obtain ⟨ad, hae, h1, h2⟩ := at_rg (Kd.C_below HR.out HA.out.2) hlt
      obtain ⟨g1, hg1⟩ : ∃ g, g = (rgAt (l.map pr) k).1 := ⟨_, rfl⟩
      obtain ⟨g2, hg2⟩ : ∃ g, g = (rgAt (l.map pr) k).2 := ⟨_, rfl⟩
      rw [← hg1] at h1
      rw [← hg2] at h2
      have hlm : k < (l.map pr).length := by simpa using hlt
      have hgk : (l.map pr)[k] = (g1, g2) := by
        have : rgAt (l.map pr) k = (l.map pr)[k] := by unfold rgAt; rw [List.getD_eq_getElem?_getD, List.getElem?_eq_getElem hlm]; rfl
        rw [← this, hg1, hg2]
      have HS : Hid (((l.map pr).take (k + 1)).any oddB = (((l.map pr).take k).any oddB || oddB (g1, g2))) := Lib.hid (by rw [List.take_succ_eq_append_getElem hlm, List.any_append, List.any_cons, List.any_nil, Bool.or_false, hgk])
      have HH : Hid (oddB (g1, g2) = true → (l.map pr).any oddB = true) := Lib.hid fun h => List.any_eq_true.2 ⟨(g1, g2), by rw [← hgk]; exact List.getElem_mem hlm, h⟩
      clear hgk hg1 hg2 hlm
      obtain ⟨ob, hob⟩ : ∃ ob, ob = oddB (g1, g2) := ⟨_, rfl⟩
      have HO := Lib.hid hob
      have HOD := Lib.hid (odd_any g1 g2 wr)
      rw [← hob] at HOD
      clear hob
      cases ob with
      | false =>
        go_wp2_with (first | (go_at_call 53; refine HOD.out.mono ?_; rintro e w5 ⟨rfl, h5⟩; have H5 := Lib.hid h5; clear h5))
        rw [← hae]
        clear hae
        go_roundw
        case rel => exact ⟨k + 1, by omega, by go_num, Lib.hid ⟨by rw [HS.out, HA.out.1, ← HO.out]; rfl, HA.out.2.trans (H5.out.mono HA.out.2.size)⟩⟩
        case measure => simp [intOf]; omega
      | true =>
        go_wp2_with (first | (go_at_call 53; refine HOD.out.mono ?_; rintro e w5 ⟨rfl, h5⟩; have H5 := Lib.hid h5; clear h5))
        go_ret
        exact ⟨⟨k, rfl, by rw [HRS.out, HH.out HO.out.symm]; simp⟩, HA.out.2.trans (H5.out.mono HA.out.2.size)⟩
    · have hnl : ¬ (k : Int) < (l.length : Int) := by omega
      have HE : Hid ((l.map pr).any oddB = false) := Lib.hid (by have := HA.out.1; rw [List.take_of_length_le (by simp; omega)] at this; exact this)
      go_wp2_with fail
      go_ret
      exact ⟨⟨-1, rfl, by rw [HRS.out, HE.out]; rfl⟩, HA.out.2⟩
theorem containsOdd_any (A : Option Addr) (c : Nat) (l : List S24) (w : World) (hr : Kd.C k24 w A l.length l) (hl : l.length ≤ maxLen) :
    Calls Tryd.prog 54 #[.slice A l.length c, .func (.func 53) #[] #[]] w
      fun e w' => e = .returned (.bool ((l.map pr).any oddB)) ∧ Below w.heap.size w w' := by
  have HI := Lib.hid (indexOdd_any A c l w hr hl)
  obtain ⟨res, hres⟩ : ∃ res, res = (l.map pr).any oddB := ⟨_, rfl⟩
  rw [← hres] at HI ⊢
  clear hr hl hres
  go_enter Tryd.func54, Tryd.ntmps54
  go_wp2_with (first | (go_at_call 76; refine HI.out.mono ?_; rintro e w5 ⟨⟨r, rfl, hd⟩, h5⟩; have H5 := Lib.hid (And.intro hd h5); clear hd h5))
  go_ret
  exact ⟨by rw [← H5.out.1]; rfl, H5.out.2⟩
def csE (s : ShM) : Int :=
  if outB 1 5 (s.l0.length : Int) = true ∨ outB 1 5 (s.l1.length : Int) = true then 6 else if s.l4.length ≠ s.l0.length * s.l1.length then 15
  else if oddB (s.a2, s.a3) = true ∨ (s.l0.map pr).any oddB = true ∨ (s.l1.map pr).any oddB = true ∨ (s.l4.map pr).any oddB = true then 3 else 0
set_option maxHeartbeats 4000000 in
set_option maxRecDepth 100000 in
theorem check_any (s : ShM) (w : World) (h : ShR w s) :
    Calls Tryd.prog 20 #[.agg #[.slice s.A0 s.l0.length s.c0, .slice s.A1 s.l1.length s.c1, .int .i64 s.a2, .int .i64 s.a3, .slice s.A4 s.l4.length s.c4]] w fun e w' => e = .returned (.int .i64 (csE s)) ∧ Below w.heap.size w w' := by
  have HR := Lib.hid h
  obtain ⟨W, hW⟩ : ∃ W, W = w.alloc (.cells #[.slice s.A0 s.l0.length s.c0, .slice s.A1 s.l1.length s.c1, .int .i64 s.a2, .int .i64 s.a3, .slice s.A4 s.l4.length s.c4] 26) := ⟨_, rfl⟩
  have hb : Below w.heap.size w W := by rw [hW]; exact (Below.refl _ _).alloc (Nat.le_refl _) _
  have hX : W.heap[w.heap.size]? = some (.cells #[.slice s.A0 s.l0.length s.c0, .slice s.A1 s.l1.length s.c1, .int .i64 s.a2, .int .i64 s.a3, .slice s.A4 s.l4.length s.c4] 26 (0, 0)) := by rw [hW]; exact heap_alloc_last _ _
  have hc : ∀ V, Below W.heap.size W V → ∀ j, V.cell? ⟨w.heap.size, j, none⟩ = _ := fun V hV j => cell_of_row V w.heap.size j _ _ _ ((hV.block _ (heap_lt hX)).trans hX)
  have HC : Hid (∀ V, Below W.heap.size W V → V.cell? ⟨w.heap.size, 0, none⟩ = some (.slice s.A0 s.l0.length s.c0) ∧ V.cell? ⟨w.heap.size, 1, none⟩ = some (.slice s.A1 s.l1.length s.c1) ∧ V.cell? ⟨w.heap.size, 2, none⟩ = some (.int .i64 s.a2) ∧ V.cell? ⟨w.heap.size, 3, none⟩ = some (.int .i64 s.a3) ∧ V.cell? ⟨w.heap.size, 4, none⟩ = some (.slice s.A4 s.l4.length s.c4)) :=
    Lib.hid fun V hV => ⟨hc V hV 0, hc V hV 1, hc V hV 2, hc V hV 3, hc V hV 4⟩
  have HX := Lib.hid hb
  obtain ⟨er, her⟩ : ∃ er, er = csE s := ⟨_, rfl⟩
  have HER := Lib.hid her
  rw [← her]
  have x0 : W.cell? ⟨w.heap.size, 0, none⟩ = some (.slice s.A0 s.l0.length s.c0) := hc W (Below.refl _ _) 0
  have HW1 := Lib.hid (within1 1 5 (s.l0.length : Int) W)
  clear hX hb h hc her
  go_enter Tryd.func20, Tryd.ntmps20
  go_upto_region 2 with fail
  rw [← hW]
  clear hW
  by_cases g1 : outB 1 5 (s.l0.length : Int) = true
  · have HE : Hid (er = 6) := Lib.hid (by rw [HER.out, csE, if_pos (.inl g1)])
    rw [g1] at HW1
    clear g1
    go_wp2_with (first | (go_at_call 51; refine HW1.out.mono ?_; rintro e w5 ⟨rfl, h5⟩; have H5 := Lib.hid h5; clear h5))
    go_ret
    exact ⟨by rw [HE.out]; rfl, HX.out.trans (H5.out.mono HX.out.size)⟩
  · have g1f : outB 1 5 (s.l0.length : Int) = false := by cases hq : outB 1 5 (s.l0.length : Int); rfl; exact absurd hq g1
    have HW2 : Hid (∀ V, Calls Tryd.prog 51 #[.int .i64 1, .int .i64 5, .slice (some ⟨V.heap.size, 0, none⟩) 1 1] (V.alloc (.cells #[.int .i64 (s.l1.length : Int)] 2)) fun e w' => e = .returned (.bool (!outB 1 5 (s.l1.length : Int))) ∧ Below V.heap.size V w') := Lib.hid fun V => within1 1 5 _ V
    rw [g1f] at HW1
    have n5 := (out_in g1f)
    have HN := Lib.hid (And.intro n5 g1)
    clear n5 g1f g1
    by_cases g2 : outB 1 5 (s.l1.length : Int) = true
    · have HE : Hid (er = 6) := Lib.hid (by rw [HER.out, csE, if_pos (.inr g2)])
      rw [g2] at HW2
      clear g2
      go_wp2_with (first | (go_at_call 51; refine HW1.out.mono ?_; rintro e w5 ⟨rfl, h5⟩; have y1 := (HC.out w5 h5).2.1; have H5 := Lib.hid h5; clear h5) | (go_at_call 51; refine (HW2.out _).mono ?_; rintro e w6 ⟨rfl, h6⟩; have H6 := Lib.hid (H5.out.trans (h6.mono H5.out.size)); clear h6))
      go_ret
      exact ⟨by rw [HE.out]; rfl, HX.out.trans (H6.out.mono HX.out.size)⟩
    · have g2f : outB 1 5 (s.l1.length : Int) = false := by cases hq : outB 1 5 (s.l1.length : Int); rfl; exact absurd hq g2
      rw [g2f] at HW2
      have m5 := out_in g2f
      have HM := Lib.hid (And.intro m5 g2)
      clear m5 g2f g2
      go_upto_region 4 with (first | (go_at_call 51; refine HW1.out.mono ?_; rintro e w5 ⟨rfl, h5⟩; have y1 := (HC.out w5 h5).2.1; have H5 := Lib.hid h5; clear h5) | (go_at_call 51; refine (HW2.out _).mono ?_; rintro e w6 ⟨rfl, h6⟩; have H6 := Lib.hid (H5.out.trans (h6.mono H5.out.size)); clear h6))
      obtain ⟨y0, y1', y2, y3, y4⟩ := HC.out w6 H6.out
      clear y1 x0
      by_cases g3 : s.l4.length = s.l0.length * s.l1.length
      · have l25 : s.l4.length ≤ 25 := by
          rw [g3]
          have a := HN.out.1; have b := HM.out.1
          calc s.l0.length * s.l1.length ≤ 5 * 5 := Nat.mul_le_mul (by omega) (by omega)
            _ = 25 := rfl
        have HG3 := Lib.hid g3
        have hmul : IntKind.i64.wrap ((s.l0.length : Int) * (s.l1.length : Int)) = (s.l4.length : Int) := by rw [show (s.l0.length : Int) * (s.l1.length : Int) = (s.l4.length : Int) by rw [g3]; simp]; exact IntWalk.i64_in _ (by omega)
        have hml : ∀ l : List S24, l.length ≤ 25 → l.length ≤ maxLen := fun l h => by unfold maxLen; omega
        have hp0 := fun (V : World) (hV : Below w.heap.size w V) => containsOdd_any s.A0 s.c0 s.l0 V (Kd.C_below HR.out.r0 hV) (hml _ (by have := HN.out.1; omega))
        have hp1 := fun (V : World) (hV : Below w.heap.size w V) => containsOdd_any s.A1 s.c1 s.l1 V (Kd.C_below HR.out.r1 hV) (hml _ (by have := HM.out.1; omega))
        have hp4 := fun (V : World) (hV : Below w.heap.size w V) => containsOdd_any s.A4 s.c4 s.l4 V (Kd.C_below HR.out.r4 hV) (hml _ (l25))
        have ho := fun V => odd_any s.a2 s.a3 V
        obtain ⟨o1, ho1⟩ : ∃ b, b = oddB (s.a2, s.a3) := ⟨_, rfl⟩
        obtain ⟨p0, hq0⟩ : ∃ b, b = (s.l0.map pr).any oddB := ⟨_, rfl⟩
        obtain ⟨p1, hq1⟩ : ∃ b, b = (s.l1.map pr).any oddB := ⟨_, rfl⟩
        obtain ⟨p4, hq4⟩ : ∃ b, b = (s.l4.map pr).any oddB := ⟨_, rfl⟩
        simp only [← ho1] at ho
        simp only [← hq0] at hp0
        simp only [← hq1] at hp1
        simp only [← hq4] at hp4
        have HO := Lib.hid ho
        have HP0 := Lib.hid hp0
        have HP1 := Lib.hid hp1
        have HP4 := Lib.hid hp4
        have HPP := Lib.hid (And.intro ho1 (And.intro hq0 (And.intro hq1 hq4)))
        clear ho hp0 hp1 hp4 ho1 hq0 hq1 hq4 hml g3 l25
        cases o1 with
        | true =>
          have HE : Hid (er = 3) := Lib.hid (by rw [HER.out, csE, if_neg (by rintro (h | h); exact HN.out.2 h; exact HM.out.2 h), if_neg (fun h => h HG3.out), ← HPP.out.1, ← HPP.out.2.1, ← HPP.out.2.2.1, ← HPP.out.2.2.2]; simp)
          go_wp2_with (first | (go_at_call 53; refine (HO.out _).mono ?_; rintro e w7 ⟨rfl, h7⟩; have H7 := Lib.hid (H6.out.trans (h7.mono H6.out.size)); have z0 := (HC.out w7 H7.out).1; clear h7))
          go_ret
          exact ⟨by rw [HE.out]; rfl, HX.out.trans (H7.out.mono HX.out.size)⟩
        | false =>
          cases p0 with
          | true =>
            have HE : Hid (er = 3) := Lib.hid (by rw [HER.out, csE, if_neg (by rintro (h | h); exact HN.out.2 h; exact HM.out.2 h), if_neg (fun h => h HG3.out), ← HPP.out.1, ← HPP.out.2.1, ← HPP.out.2.2.1, ← HPP.out.2.2.2]; simp)
            go_wp2_with (first | (go_at_call 53; refine (HO.out _).mono ?_; rintro e w7 ⟨rfl, h7⟩; have H7 := Lib.hid (H6.out.trans (h7.mono H6.out.size)); have z0 := (HC.out w7 H7.out).1; clear h7) | (go_at_call 54; refine (HP0.out w7 (HX.out.trans (H7.out.mono HX.out.size))).mono ?_; rintro e w8 ⟨rfl, h8⟩; have H8 := Lib.hid (H7.out.trans (h8.mono H7.out.size)); have z1 := (HC.out w8 H8.out).2.1; clear h8))
            go_ret
            exact ⟨by rw [HE.out]; rfl, HX.out.trans (H8.out.mono HX.out.size)⟩
          | false =>
            cases p1 with
            | true =>
              have HE : Hid (er = 3) := Lib.hid (by rw [HER.out, csE, if_neg (by rintro (h | h); exact HN.out.2 h; exact HM.out.2 h), if_neg (fun h => h HG3.out), ← HPP.out.1, ← HPP.out.2.1, ← HPP.out.2.2.1, ← HPP.out.2.2.2]; simp)
              go_wp2_with (first | (go_at_call 53; refine (HO.out _).mono ?_; rintro e w7 ⟨rfl, h7⟩; have H7 := Lib.hid (H6.out.trans (h7.mono H6.out.size)); have z0 := (HC.out w7 H7.out).1; clear h7) | (go_at_call 54; refine (HP0.out w7 (HX.out.trans (H7.out.mono HX.out.size))).mono ?_; rintro e w8 ⟨rfl, h8⟩; have H8 := Lib.hid (H7.out.trans (h8.mono H7.out.size)); have z1 := (HC.out w8 H8.out).2.1; clear h8) | (go_at_call 54; refine (HP1.out w8 (HX.out.trans (H8.out.mono HX.out.size))).mono ?_; rintro e w9 ⟨rfl, h9⟩; have H9 := Lib.hid (H8.out.trans (h9.mono H8.out.size)); have z4 := (HC.out w9 H9.out).2.2.2.2; clear h9))
              go_ret
              exact ⟨by rw [HE.out]; rfl, HX.out.trans (H9.out.mono HX.out.size)⟩
            | false =>
              cases p4 with
              | true =>
                have HE : Hid (er = 3) := Lib.hid (by rw [HER.out, csE, if_neg (by rintro (h | h); exact HN.out.2 h; exact HM.out.2 h), if_neg (fun h => h HG3.out), ← HPP.out.1, ← HPP.out.2.1, ← HPP.out.2.2.1, ← HPP.out.2.2.2]; simp)
                go_wp2_with (first | (go_at_call 53; refine (HO.out _).mono ?_; rintro e w7 ⟨rfl, h7⟩; have H7 := Lib.hid (H6.out.trans (h7.mono H6.out.size)); have z0 := (HC.out w7 H7.out).1; clear h7) | (go_at_call 54; refine (HP0.out w7 (HX.out.trans (H7.out.mono HX.out.size))).mono ?_; rintro e w8 ⟨rfl, h8⟩; have H8 := Lib.hid (H7.out.trans (h8.mono H7.out.size)); have z1 := (HC.out w8 H8.out).2.1; clear h8) | (go_at_call 54; refine (HP1.out w8 (HX.out.trans (H8.out.mono HX.out.size))).mono ?_; rintro e w9 ⟨rfl, h9⟩; have H9 := Lib.hid (H8.out.trans (h9.mono H8.out.size)); have z4 := (HC.out w9 H9.out).2.2.2.2; clear h9) | (go_at_call 54; refine (HP4.out w9 (HX.out.trans (H9.out.mono HX.out.size))).mono ?_; rintro e w10 ⟨rfl, h10⟩; have H10 := Lib.hid (H9.out.trans (h10.mono H9.out.size)); clear h10))
                go_ret
                exact ⟨by rw [HE.out]; rfl, HX.out.trans (H10.out.mono HX.out.size)⟩
              | false =>
                have HE : Hid (er = 0) := Lib.hid (by rw [HER.out, csE, if_neg (by rintro (h | h); exact HN.out.2 h; exact HM.out.2 h), if_neg (fun h => h HG3.out), ← HPP.out.1, ← HPP.out.2.1, ← HPP.out.2.2.1, ← HPP.out.2.2.2]; simp)
                go_wp2_with (first | (go_at_call 53; refine (HO.out _).mono ?_; rintro e w7 ⟨rfl, h7⟩; have H7 := Lib.hid (H6.out.trans (h7.mono H6.out.size)); have z0 := (HC.out w7 H7.out).1; clear h7) | (go_at_call 54; refine (HP0.out w7 (HX.out.trans (H7.out.mono HX.out.size))).mono ?_; rintro e w8 ⟨rfl, h8⟩; have H8 := Lib.hid (H7.out.trans (h8.mono H7.out.size)); have z1 := (HC.out w8 H8.out).2.1; clear h8) | (go_at_call 54; refine (HP1.out w8 (HX.out.trans (H8.out.mono HX.out.size))).mono ?_; rintro e w9 ⟨rfl, h9⟩; have H9 := Lib.hid (H8.out.trans (h9.mono H8.out.size)); have z4 := (HC.out w9 H9.out).2.2.2.2; clear h9) | (go_at_call 54; refine (HP4.out w9 (HX.out.trans (H9.out.mono HX.out.size))).mono ?_; rintro e w10 ⟨rfl, h10⟩; have H10 := Lib.hid (H9.out.trans (h10.mono H9.out.size)); clear h10))
                go_ret
                exact ⟨by rw [HE.out]; rfl, HX.out.trans (H10.out.mono HX.out.size)⟩
      · have HE : Hid (er = 15) := Lib.hid (by rw [HER.out, csE, if_neg (by rintro (h | h); exact HN.out.2 h; exact HM.out.2 h), if_pos g3])
        obtain ⟨pm, hpm⟩ : ∃ pm : Nat, pm = s.l0.length * s.l1.length := ⟨_, rfl⟩
        have hpb : pm ≤ 25 := by
          rw [hpm]
          have a := HN.out.1; have b := HM.out.1
          calc s.l0.length * s.l1.length ≤ 5 * 5 := Nat.mul_le_mul (by omega) (by omega)
            _ = 25 := rfl
        have hmul : IntKind.i64.wrap ((s.l0.length : Int) * (s.l1.length : Int)) = (pm : Int) := by rw [show (s.l0.length : Int) * (s.l1.length : Int) = (pm : Int) by rw [hpm]; simp]; exact IntWalk.i64_in _ (by omega)
        have hne : ((s.l4.length : Int) == (pm : Int)) = false := beq_eq_false_iff_ne.2 (by rw [hpm] at *; omega)
        clear hpm g3
        go_wp2_with fail
        go_ret
        exact ⟨by rw [HE.out]; rfl, HX.out.trans (H6.out.mono HX.out.size)⟩
theorem rg_mem (l : List (Int × Int)) : (∀ i, i < l.length → RgOk (rgAt l i)) ↔ l.any oddB = false := by
  rw [List.any_eq_false]
  constructor
  · intro h x hx
    obtain ⟨i, hi, rfl⟩ := List.mem_iff_getElem.1 hx
    have := h i hi
    unfold rgAt at this
    rw [List.getD_eq_getElem?_getD, List.getElem?_eq_getElem hi, Option.getD_some] at this
    rw [(odd_iff _).2 this]; simp
  · intro h i hi
    have hx := h l[i] (List.getElem_mem _)
    unfold rgAt
    rw [List.getD_eq_getElem?_getD, List.getElem?_eq_getElem hi, Option.getD_some]
    exact (odd_iff _).1 (by simpa using hx)
theorem csE_ok (s : ShM) : csE s = 0 ↔ s.Ok := by
  unfold csE
  have h0 : (s.l0.map pr).length = s.l0.length := List.length_map _
  have h1 : (s.l1.map pr).length = s.l1.length := List.length_map _
  have h4 : (s.l4.map pr).length = s.l4.length := List.length_map _
  constructor
  · intro h
    split at h
    · cases h
    rename_i g1
    split at h
    · cases h
    rename_i g2
    split at h
    · cases h
    rename_i g3
    simp only [not_or, Bool.not_eq_true] at g1 g3
    simp only [outB, Bool.or_eq_false_iff, decide_eq_false_iff_not] at g1
    obtain ⟨g3a, g3b, g3c, g3d⟩ := g3
    refine ⟨?_, ?_, ?_, ?_, ?_, (rg_mem _).2 g3b, (rg_mem _).2 g3c, (odd_iff _).1 g3a, (rg_mem _).2 g3d⟩
    · show 1 ≤ (s.l0.map pr).length; omega
    · show (s.l0.map pr).length ≤ 5; omega
    · show 1 ≤ (s.l1.map pr).length; omega
    · show (s.l1.map pr).length ≤ 5; omega
    · show (s.l4.map pr).length = (s.l0.map pr).length * (s.l1.map pr).length
      rw [h0, h1, h4]; omega
  · intro h
    have n1 : 1 ≤ (s.l0.map pr).length := h.n1
    have n5 : (s.l0.map pr).length ≤ 5 := h.n5
    have m1 : 1 ≤ (s.l1.map pr).length := h.m1
    have m5 : (s.l1.map pr).length ≤ 5 := h.m5
    have hl : (s.l4.map pr).length = (s.l0.map pr).length * (s.l1.map pr).length := h.len
    rw [h0, h1, h4] at hl
    rw [if_neg (by simp only [outB, Bool.or_eq_true, decide_eq_true_iff]; omega), if_neg (by omega), if_neg]
    simp only [not_or, Bool.not_eq_true]
    exact ⟨(odd_iff _).2 h.ha, (rg_mem _).1 h.ho, (rg_mem _).1 h.hp, (rg_mem _).1 h.hc⟩
theorem ShM.l25 {s : ShM} (h : s.Ok) : s.l4.length ≤ 25 := by
  have h1 : s.sh.os.length * s.sh.ps.length ≤ 5 * 5 := Nat.mul_le_mul h.n5 h.m5
  have := h.len
  rw [ShM.len4] at this
  omega
def BoxS (W : World) (b : Nat) (s : ShM) : Prop := W.heap[b]? = some (.cells #[.slice s.A0 s.l0.length s.c0, .slice s.A1 s.l1.length s.c1, .int .i64 s.a2, .int .i64 s.a3, .slice s.A4 s.l4.length s.c4] 26 (0, 0))
section
variable {W W' : World} {b : Nat} {s : ShM}
theorem BoxS.below (h : BoxS W b s) (hb : Below W.heap.size W W') : BoxS W' b s := (hb.block b (heap_lt h)).trans h
theorem BoxS.c0 (h : BoxS W b s) : W.cell? ⟨b, 0, none⟩ = some (.slice s.A0 s.l0.length s.c0) := by rw [cell_of_row W _ _ _ _ _ h]; rfl
theorem BoxS.c1 (h : BoxS W b s) : W.cell? ⟨b, 1, none⟩ = some (.slice s.A1 s.l1.length s.c1) := by rw [cell_of_row W _ _ _ _ _ h]; rfl
theorem BoxS.c2 (h : BoxS W b s) : W.cell? ⟨b, 2, none⟩ = some (.int .i64 s.a2) := by rw [cell_of_row W _ _ _ _ _ h]; rfl
theorem BoxS.c3 (h : BoxS W b s) : W.cell? ⟨b, 3, none⟩ = some (.int .i64 s.a3) := by rw [cell_of_row W _ _ _ _ _ h]; rfl
theorem BoxS.c4 (h : BoxS W b s) : W.cell? ⟨b, 4, none⟩ = some (.slice s.A4 s.l4.length s.c4) := by rw [cell_of_row W _ _ _ _ _ h]; rfl
end
theorem box_new (w : World) (s : ShM) : BoxS (w.alloc (.cells #[.slice s.A0 s.l0.length s.c0, .slice s.A1 s.l1.length s.c1, .int .i64 s.a2, .int .i64 s.a3, .slice s.A4 s.l4.length s.c4] 26)) w.heap.size s := heap_alloc_last _ _
set_option maxHeartbeats 4000000 in
set_option maxRecDepth 100000 in
theorem open_ok (s : ShM) (w : World) (h : ShR w s) (hS : s.Ok) :
    Calls Tryd.prog 50 #[.agg #[.slice s.A0 s.l0.length s.c0, .slice s.A1 s.l1.length s.c1, .int .i64 s.a2, .int .i64 s.a3, .slice s.A4 s.l4.length s.c4]] w fun e w' => ∃ B Tb, e = .returned (.tuple #[.pointer (some ⟨B, 0, none⟩), .int .i64 0]) ∧ BookAt w' B Tb s (.map none) (leastT s.sh) ∧ w.heap.size ≤ B ∧ w.heap.size ≤ Tb ∧ Below w.heap.size w w' := by
  obtain ⟨W, hW⟩ : ∃ W, W = w.alloc (.cells #[.slice s.A0 s.l0.length s.c0, .slice s.A1 s.l1.length s.c1, .int .i64 s.a2, .int .i64 s.a3, .slice s.A4 s.l4.length s.c4] 26) := ⟨_, rfl⟩
  have hb : Below w.heap.size w W := by rw [hW]; exact (Below.refl _ _).alloc (Nat.le_refl _) _
  have hX : BoxS W w.heap.size s := by rw [hW]; exact box_new w s
  have hc := check_any s W (h.below hb)
  rw [(csE_ok s).2 hS] at hc
  have HC := Lib.hid hc
  have HW := Lib.hid (And.intro h (And.intro hb (And.intro hX (ShM.l25 hS))))
  obtain ⟨b, hbe⟩ : ∃ b, b = w.heap.size := ⟨_, rfl⟩
  rw [← hbe] at hX
  have x0 := hX.c0
  have x1 := hX.c1
  have x2 := hX.c2
  have x3 := hX.c3
  have x4 := hX.c4
  have HBE := Lib.hid hbe
  clear h hb hX hc hS
  go_enter Tryd.func50, Tryd.ntmps50
  go_upto_region 1 with fail
  rw [← hW, ← hbe]
  clear hW hbe
  go_upto_region 4 with (go_at_call 20; refine HC.out.mono ?_; rintro e w1 ⟨rfl, h1⟩; have H1 := Lib.hid h1; clear h1)
  have hX1 : BoxS w1 b s := by rw [HBE.out]; exact HW.out.2.2.1.below H1.out
  have x0 := hX1.c0
  have x1 := hX1.c1
  have x2 := hX1.c2
  have x3 := hX1.c3
  have x4 := hX1.c4
  have HN := Lib.hid (newBook_any s w1 ((HW.out.1.below HW.out.2.1).below H1.out) HW.out.2.2.2)
  clear hX1
  go_wp2_with (go_at_call 70; refine HN.out.mono ?_; rintro e w2 ⟨B, Tb, rfl, h2⟩; have H2 := Lib.hid h2; clear h2)
  have h := H2.out
  have hs := H1.out.size
  have hs2 := HW.out.2.1.size
  refine bodyPost_ret (results_tmp2 rfl _ _ _) rfl ?_
  exact ⟨B, Tb, rfl, h.1, by omega, by omega, (HW.out.2.1.trans (H1.out.mono hs2)).trans (h.2.2.2.mono (by omega))⟩
theorem reads_tab {W : World} {Tb : Nat} {t : List Int} (h : W.heap[Tb]? = some (.cells (nums .i64 t).toArray 2 (0, 0))) (hl : t.length ≤ 1000) : Kd.C (Kd.int .i64) W (some ⟨Tb, 0, none⟩) t.length t :=
  Kd.C_of_reads (d := (0 : Int)) (h1 := fun _ => rfl) ⟨rfl, by omega, fun _ => ⟨_, rfl, fun j hj => by
    rw [add_plain, cell_of_row W _ _ _ _ _ h]
    simp [nums, hj, List.getD_eq_getElem?_getD]⟩⟩
set_option maxHeartbeats 4000000 in
set_option maxRecDepth 100000 in
theorem off_ok (s : ShM) (w : World) (hv : VarsAt w) (h : ShR w s) (hS : s.Ok) (n : Int) (hn : n = offS s.sh) :
    Calls Tryd.prog 25 #[.agg #[.slice s.A0 s.l0.length s.c0, .slice s.A1 s.l1.length s.c1, .int .i64 s.a2, .int .i64 s.a3, .slice s.A4 s.l4.length s.c4]] w fun e w' => e = .returned (.tuple #[.int .i64 n, .int .i64 0]) ∧ Below w.heap.size w w' := by
  obtain ⟨W, hW⟩ : ∃ W, W = w.alloc (.cells #[.slice s.A0 s.l0.length s.c0, .slice s.A1 s.l1.length s.c1, .int .i64 s.a2, .int .i64 s.a3, .slice s.A4 s.l4.length s.c4] 26) := ⟨_, rfl⟩
  have hb : Below w.heap.size w W := by rw [hW]; exact (Below.refl _ _).alloc (Nat.le_refl _) _
  have hX : BoxS W w.heap.size s := by rw [hW]; exact box_new w s
  have HW := Lib.hid (And.intro hb hX)
  have HO := Lib.hid (open_ok s W (h.below hb) hS)
  have HS := Lib.hid (And.intro hS (And.intro hv h))
  clear h hS hv
  have x0 := hX.c0
  have x1 := hX.c1
  have x2 := hX.c2
  have x3 := hX.c3
  have x4 := hX.c4
  clear hb hX
  go_enter Tryd.func25, Tryd.ntmps25
  go_upto_region 1 with fail
  rw [← hW]
  clear hW
  go_upto_region 4 with (go_at_call 50; refine HO.out.mono ?_; rintro e w1 ⟨B, Tb, rfl, h1⟩; have H1 := Lib.hid h1; clear h1)
  have hw1 : Below w.heap.size w w1 := HW.out.1.trans (H1.out.2.2.2.mono HW.out.1.size)
  have hsz : w.heap.size ≤ B ∧ w.heap.size ≤ Tb := by have := HW.out.1.size; have := H1.out; omega
  have HM := Lib.hid (mend_any B Tb s (.map none) (leastT s.sh) w1 H1.out.1 HS.out.1 (least_in HS.out.1) (by omega) w HS.out.2.1 HS.out.2.2 hw1 hsz)
  have HL := Lib.hid (And.intro hw1 hsz)
  clear hw1 hsz
  go_upto_region 5 with (go_at_call 59; refine HM.out.mono ?_; rintro e w2 ⟨rfl, M, h2⟩; have H2 := Lib.hid h2; clear h2)
  have H3 : Hid (BookAt w2 B Tb s (.map (some M)) (bestT s.sh) ∧ FarAt w2 M (findS s.sh (bestT s.sh)).2.far ∧ Below w.heap.size w w2) := Lib.hid ⟨H2.out.1, H2.out.2.1, HL.out.1.trans (H2.out.2.2.2.below HL.out.1.size (by simp; exact HL.out.2))⟩
  have htk := tok_in HS.out.1 (best_in HS.out.1)
  have HWR := Lib.hid (wrong_any B Tb s (.map (some M)) (bestT s.sh) w2 H3.out.1 htk)
  have HN := Lib.hid hn
  clear htk hn
  go_wp2_with (go_at_call 52; refine HWR.out.mono ?_; rintro e w3 ⟨rfl, h3⟩; rw [show wrongS s.sh (tat (bestT s.sh)) = n from HN.out.symm]; have H4 := Lib.hid h3; clear h3)
  refine bodyPost_ret (results_tmp2 rfl _ _ _) rfl ?_
  exact ⟨rfl, H3.out.2.2.trans (H4.out.mono H3.out.2.2.size)⟩
set_option maxHeartbeats 4000000 in
set_option maxRecDepth 100000 in
theorem table_ok (s : ShM) (w : World) (hv : VarsAt w) (h : ShR w s) (hS : s.Ok) :
    Calls Tryd.prog 27 #[.agg #[.slice s.A0 s.l0.length s.c0, .slice s.A1 s.l1.length s.c1, .int .i64 s.a2, .int .i64 s.a3, .slice s.A4 s.l4.length s.c4]] w fun e w' => ∃ Tb, e = .returned (.tuple #[.slice (some ⟨Tb, 0, none⟩) (bestT s.sh).length (bestT s.sh).length, .int .i64 0]) ∧ Kd.C (Kd.int .i64) w' (some ⟨Tb, 0, none⟩) (bestT s.sh).length (bestT s.sh) ∧ Below w.heap.size w w' := by
  obtain ⟨W, hW⟩ : ∃ W, W = w.alloc (.cells #[.slice s.A0 s.l0.length s.c0, .slice s.A1 s.l1.length s.c1, .int .i64 s.a2, .int .i64 s.a3, .slice s.A4 s.l4.length s.c4] 26) := ⟨_, rfl⟩
  have hb : Below w.heap.size w W := by rw [hW]; exact (Below.refl _ _).alloc (Nat.le_refl _) _
  have hX : BoxS W w.heap.size s := by rw [hW]; exact box_new w s
  have HW := Lib.hid (And.intro hb hX)
  have HO := Lib.hid (open_ok s W (h.below hb) hS)
  have HS := Lib.hid (And.intro hS (And.intro hv h))
  clear h hS hv
  have x0 := hX.c0
  have x1 := hX.c1
  have x2 := hX.c2
  have x3 := hX.c3
  have x4 := hX.c4
  clear hb hX
  go_enter Tryd.func27, Tryd.ntmps27
  go_upto_region 1 with fail
  rw [← hW]
  clear hW
  go_upto_region 4 with (go_at_call 50; refine HO.out.mono ?_; rintro e w1 ⟨B, Tb, rfl, h1⟩; have H1 := Lib.hid h1; clear h1)
  have hw1 : Below w.heap.size w w1 := HW.out.1.trans (H1.out.2.2.2.mono HW.out.1.size)
  have hsz : w.heap.size ≤ B ∧ w.heap.size ≤ Tb := by have := HW.out.1.size; have := H1.out; omega
  have HM := Lib.hid (mend_any B Tb s (.map none) (leastT s.sh) w1 H1.out.1 HS.out.1 (least_in HS.out.1) (by omega) w HS.out.2.1 HS.out.2.2 hw1 hsz)
  have HL := Lib.hid (And.intro hw1 hsz)
  clear hw1 hsz
  go_upto_region 5 with (go_at_call 59; refine HM.out.mono ?_; rintro e w2 ⟨rfl, M, h2⟩; have H2 := Lib.hid h2; clear h2)
  have H3 : Hid (BookAt w2 B Tb s (.map (some M)) (bestT s.sh) ∧ FarAt w2 M (findS s.sh (bestT s.sh)).2.far ∧ Below w.heap.size w w2) := Lib.hid ⟨H2.out.1, H2.out.2.1, HL.out.1.trans (H2.out.2.2.2.below HL.out.1.size (by simp; exact HL.out.2))⟩
  have htk := tok_in HS.out.1 (best_in HS.out.1)
  have b0 := H3.out.1.b0
  have b5 := H3.out.1.b5
  have HTK := Lib.hid htk
  clear htk
  go_wp2_with fail
  refine bodyPost_ret (results_tmp2 rfl _ _ _) rfl ?_
  exact ⟨Tb, rfl, reads_tab H3.out.1.tab (by have := HTK.out.l25; omega), H3.out.2.2⟩
set_option maxHeartbeats 4000000 in
set_option maxRecDepth 100000 in
theorem weights_ok (s : ShM) (w : World) (hv : VarsAt w) (h : ShR w s) (hS : s.Ok) :
    Calls Tryd.prog 28 #[.agg #[.slice s.A0 s.l0.length s.c0, .slice s.A1 s.l1.length s.c1, .int .i64 s.a2, .int .i64 s.a3, .slice s.A4 s.l4.length s.c4]] w fun e w' => ∃ A c, e = .returned (.tuple #[.slice A (s.l0.length + s.l1.length + 1) c, .int .i64 0]) ∧ w'.ownsRow w.heap.size 3 1 (.slice A (s.l0.length + s.l1.length + 1) c) (s.l0.length + s.l1.length + 1) (nums .i64 (wtsL (findS s.sh (bestT s.sh)).2.far s.l0.length s.l1.length)) ∧ Below w.heap.size w w' := by
  obtain ⟨W, hW⟩ : ∃ W, W = w.alloc (.cells #[.slice s.A0 s.l0.length s.c0, .slice s.A1 s.l1.length s.c1, .int .i64 s.a2, .int .i64 s.a3, .slice s.A4 s.l4.length s.c4] 26) := ⟨_, rfl⟩
  have hb : Below w.heap.size w W := by rw [hW]; exact (Below.refl _ _).alloc (Nat.le_refl _) _
  have hX : BoxS W w.heap.size s := by rw [hW]; exact box_new w s
  have HW := Lib.hid (And.intro hb hX)
  have HO := Lib.hid (open_ok s W (h.below hb) hS)
  have HS := Lib.hid (And.intro hS (And.intro hv h))
  clear h hS hv
  have x0 := hX.c0
  have x1 := hX.c1
  have x2 := hX.c2
  have x3 := hX.c3
  have x4 := hX.c4
  clear hb hX
  go_enter Tryd.func28, Tryd.ntmps28
  go_upto_region 1 with fail
  rw [← hW]
  clear hW
  go_upto_region 4 with (go_at_call 50; refine HO.out.mono ?_; rintro e w1 ⟨B, Tb, rfl, h1⟩; have H1 := Lib.hid h1; clear h1)
  have hw1 : Below w.heap.size w w1 := HW.out.1.trans (H1.out.2.2.2.mono HW.out.1.size)
  have hsz : w.heap.size ≤ B ∧ w.heap.size ≤ Tb := by have := HW.out.1.size; have := H1.out; omega
  have HM := Lib.hid (mend_any B Tb s (.map none) (leastT s.sh) w1 H1.out.1 HS.out.1 (least_in HS.out.1) (by omega) w HS.out.2.1 HS.out.2.2 hw1 hsz)
  have HL := Lib.hid (And.intro hw1 hsz)
  clear hw1 hsz
  go_upto_region 5 with (go_at_call 59; refine HM.out.mono ?_; rintro e w2 ⟨rfl, M, h2⟩; have H2 := Lib.hid h2; clear h2)
  have H3 : Hid (BookAt w2 B Tb s (.map (some M)) (bestT s.sh) ∧ FarAt w2 M (findS s.sh (bestT s.sh)).2.far ∧ Below w.heap.size w w2) := Lib.hid ⟨H2.out.1, H2.out.2.1, HL.out.1.trans (H2.out.2.2.2.below HL.out.1.size (by simp; exact HL.out.2))⟩
  have htk := tok_in HS.out.1 (best_in HS.out.1)
  have HWT := Lib.hid (weights_any B Tb M s (bestT s.sh) _ w2 H3.out.1 H3.out.2.1 (HS.out.2.1.below H3.out.2.2) htk.n5 htk.m5 (find_ok htk).far)
  clear htk
  go_wp2_with (go_at_call 61; refine HWT.out.mono ?_; rintro e w3 ⟨A, c, rfl, h3⟩; have H4 := Lib.hid h3; clear h3)
  refine bodyPost_ret (results_tmp2 rfl _ _ _) rfl ?_
  exact ⟨A, c, rfl, own_lower H4.out.1 H3.out.2.2.size, H3.out.2.2.trans (H4.out.2.mono H3.out.2.2.size)⟩
set_option maxHeartbeats 4000000 in
set_option maxRecDepth 100000 in
theorem held_ok (s : ShM) (w : World) (hv : VarsAt w) (h : ShR w s) (hS : s.Ok) (hn : offS s.sh = 0) :
    Calls Tryd.prog 62 #[.agg #[.slice s.A0 s.l0.length s.c0, .slice s.A1 s.l1.length s.c1, .int .i64 s.a2, .int .i64 s.a3, .slice s.A4 s.l4.length s.c4]] w fun e w' => ∃ B Tb fv, e = .returned (.tuple #[.pointer (some ⟨B, 0, none⟩), .int .i64 0]) ∧ BookAt w' B Tb s fv (bestT s.sh) ∧ w.heap.size ≤ B ∧ w.heap.size ≤ Tb ∧ Below w.heap.size w w' := by
  obtain ⟨W, hW⟩ : ∃ W, W = w.alloc (.cells #[.slice s.A0 s.l0.length s.c0, .slice s.A1 s.l1.length s.c1, .int .i64 s.a2, .int .i64 s.a3, .slice s.A4 s.l4.length s.c4] 26) := ⟨_, rfl⟩
  have hb : Below w.heap.size w W := by rw [hW]; exact (Below.refl _ _).alloc (Nat.le_refl _) _
  have hX : BoxS W w.heap.size s := by rw [hW]; exact box_new w s
  have HW := Lib.hid (And.intro hb hX)
  have HO := Lib.hid (open_ok s W (h.below hb) hS)
  have HS := Lib.hid (And.intro hS (And.intro hv h))
  clear h hS hv
  have x0 := hX.c0
  have x1 := hX.c1
  have x2 := hX.c2
  have x3 := hX.c3
  have x4 := hX.c4
  clear hb hX
  go_enter Tryd.func62, Tryd.ntmps62
  go_upto_region 1 with fail
  rw [← hW]
  clear hW
  go_upto_region 4 with (go_at_call 50; refine HO.out.mono ?_; rintro e w1 ⟨B, Tb, rfl, h1⟩; have H1 := Lib.hid h1; clear h1)
  have hw1 : Below w.heap.size w w1 := HW.out.1.trans (H1.out.2.2.2.mono HW.out.1.size)
  have hsz : w.heap.size ≤ B ∧ w.heap.size ≤ Tb := by have := HW.out.1.size; have := H1.out; omega
  have HM := Lib.hid (mend_any B Tb s (.map none) (leastT s.sh) w1 H1.out.1 HS.out.1 (least_in HS.out.1) (by omega) w HS.out.2.1 HS.out.2.2 hw1 hsz)
  have HL := Lib.hid (And.intro hw1 hsz)
  clear hw1 hsz
  go_upto_region 5 with (go_at_call 59; refine HM.out.mono ?_; rintro e w2 ⟨rfl, M, h2⟩; have H2 := Lib.hid h2; clear h2)
  have H3 : Hid (BookAt w2 B Tb s (.map (some M)) (bestT s.sh) ∧ FarAt w2 M (findS s.sh (bestT s.sh)).2.far ∧ Below w.heap.size w w2) := Lib.hid ⟨H2.out.1, H2.out.2.1, HL.out.1.trans (H2.out.2.2.2.below HL.out.1.size (by simp; exact HL.out.2))⟩
  have htk := tok_in HS.out.1 (best_in HS.out.1)
  have hwr := wrong_any B Tb s (.map (some M)) (bestT s.sh) w2 H3.out.1 htk
  rw [show wrongS s.sh (tat (bestT s.sh)) = 0 from hn] at hwr
  have HWR := Lib.hid hwr
  clear htk hn hwr
  go_wp2_with (go_at_call 52; refine HWR.out.mono ?_; rintro e w3 ⟨rfl, h3⟩; have H4 := Lib.hid h3; clear h3)
  refine bodyPost_ret (results_tmp2 rfl _ _ _) rfl ?_
  exact ⟨B, Tb, _, rfl, H3.out.1.below H4.out, HL.out.2.1, HL.out.2.2, H3.out.2.2.trans (H4.out.mono H3.out.2.2.size)⟩
set_option maxHeartbeats 4000000 in
set_option maxRecDepth 100000 in
theorem heldNot_ok (s : ShM) (w : World) (hv : VarsAt w) (h : ShR w s) (hS : s.Ok) (n : Int) (hn : n = offS s.sh) (hp : 0 < n) :
    Calls Tryd.prog 62 #[.agg #[.slice s.A0 s.l0.length s.c0, .slice s.A1 s.l1.length s.c1, .int .i64 s.a2, .int .i64 s.a3, .slice s.A4 s.l4.length s.c4]] w fun e w' => e = .returned (.tuple #[.pointer none, .int .i64 24]) ∧ Below w.heap.size w w' := by
  obtain ⟨W, hW⟩ : ∃ W, W = w.alloc (.cells #[.slice s.A0 s.l0.length s.c0, .slice s.A1 s.l1.length s.c1, .int .i64 s.a2, .int .i64 s.a3, .slice s.A4 s.l4.length s.c4] 26) := ⟨_, rfl⟩
  have hb : Below w.heap.size w W := by rw [hW]; exact (Below.refl _ _).alloc (Nat.le_refl _) _
  have hX : BoxS W w.heap.size s := by rw [hW]; exact box_new w s
  have HW := Lib.hid (And.intro hb hX)
  have HO := Lib.hid (open_ok s W (h.below hb) hS)
  have HS := Lib.hid (And.intro hS (And.intro hv h))
  clear h hS hv
  have x0 := hX.c0
  have x1 := hX.c1
  have x2 := hX.c2
  have x3 := hX.c3
  have x4 := hX.c4
  clear hb hX
  go_enter Tryd.func62, Tryd.ntmps62
  go_upto_region 1 with fail
  rw [← hW]
  clear hW
  go_upto_region 4 with (go_at_call 50; refine HO.out.mono ?_; rintro e w1 ⟨B, Tb, rfl, h1⟩; have H1 := Lib.hid h1; clear h1)
  have hw1 : Below w.heap.size w w1 := HW.out.1.trans (H1.out.2.2.2.mono HW.out.1.size)
  have hsz : w.heap.size ≤ B ∧ w.heap.size ≤ Tb := by have := HW.out.1.size; have := H1.out; omega
  have HM := Lib.hid (mend_any B Tb s (.map none) (leastT s.sh) w1 H1.out.1 HS.out.1 (least_in HS.out.1) (by omega) w HS.out.2.1 HS.out.2.2 hw1 hsz)
  have HL := Lib.hid (And.intro hw1 hsz)
  clear hw1 hsz
  go_upto_region 5 with (go_at_call 59; refine HM.out.mono ?_; rintro e w2 ⟨rfl, M, h2⟩; have H2 := Lib.hid h2; clear h2)
  have H3 : Hid (BookAt w2 B Tb s (.map (some M)) (bestT s.sh) ∧ FarAt w2 M (findS s.sh (bestT s.sh)).2.far ∧ Below w.heap.size w w2) := Lib.hid ⟨H2.out.1, H2.out.2.1, HL.out.1.trans (H2.out.2.2.2.below HL.out.1.size (by simp; exact HL.out.2))⟩
  have htk := tok_in HS.out.1 (best_in HS.out.1)
  have hwr := wrong_any B Tb s (.map (some M)) (bestT s.sh) w2 H3.out.1 htk
  rw [show wrongS s.sh (tat (bestT s.sh)) = n from hn.symm] at hwr
  have HWR := Lib.hid hwr
  clear htk hn hwr
  go_wp2_with (go_at_call 52; refine HWR.out.mono ?_; rintro e w3 ⟨rfl, h3⟩; have H4 := Lib.hid h3; clear h3)
  refine bodyPost_ret (results_tmp2 rfl _ _ _) rfl ?_
  exact ⟨rfl, H3.out.2.2.trans (H4.out.mono H3.out.2.2.size)⟩
set_option maxHeartbeats 4000000 in
set_option maxRecDepth 100000 in
theorem wrongT_any (s : ShM) (A : Option Addr) (c : Nat) (l : List Int) (w : World) (h : ShR w s) (hS : s.Ok) (hl : Kd.C (Kd.int .i64) w A l.length l) (hlc : l.length ≤ c) (he : l.length = s.l4.length) (n er : Int)
    (hres : (InL s.sh l ∧ n = wrongS s.sh (tat l) ∧ er = 0) ∨ (¬ InL s.sh l ∧ n = 0 ∧ er = 3)) :
    Calls Tryd.prog 18 #[.agg #[.slice s.A0 s.l0.length s.c0, .slice s.A1 s.l1.length s.c1, .int .i64 s.a2, .int .i64 s.a3, .slice s.A4 s.l4.length s.c4], .slice A l.length c] w fun e w' => e = .returned (.tuple #[.int .i64 n, .int .i64 er]) ∧ Below w.heap.size w w' := by
  obtain ⟨W, hW⟩ : ∃ W, W = w.alloc (.cells #[.slice s.A0 s.l0.length s.c0, .slice s.A1 s.l1.length s.c1, .int .i64 s.a2, .int .i64 s.a3, .slice s.A4 s.l4.length s.c4] 26) := ⟨_, rfl⟩
  have hb : Below w.heap.size w W := by rw [hW]; exact (Below.refl _ _).alloc (Nat.le_refl _) _
  have hX : BoxS W w.heap.size s := by rw [hW]; exact box_new w s
  have HW := Lib.hid (And.intro hb hX)
  have HO := Lib.hid (open_ok s W (h.below hb) hS)
  have hl4 := ShM.l25 hS
  have hl1 : 1 ≤ l.length := by
    have h1 := hS.len
    have h2 : 1 * 1 ≤ s.sh.os.length * s.sh.ps.length := Nat.mul_le_mul hS.n1 hS.m1
    rw [ShM.len4] at h1
    omega
  have x0 := hX.c0
  have x1 := hX.c1
  have x2 := hX.c2
  have x3 := hX.c3
  have x4 := hX.c4
  obtain ⟨b, hbe⟩ : ∃ b, b = w.heap.size := ⟨_, rfl⟩
  rw [← hbe] at x0 x1 x2 x3 x4
  have HBE := Lib.hid hbe
  have hlr : ReadsInt w .i64 A l.length l := Kd.reads_of_C (d := (0 : Int)) (h1 := fun _ => rfl) hl
  obtain ⟨ad, rfl, hcell⟩ := reads_some hlr (by omega)
  have HS := Lib.hid (And.intro hS (And.intro h (And.intro hcell (And.intro hlc hlr))))
  have HE := Lib.hid (And.intro he (And.intro hl4 hl1))
  have HRES := Lib.hid hres
  clear h hS hb hX hl hlc hcell hl4 hl1 he hres hlr
  go_enter Tryd.func18, Tryd.ntmps18
  go_upto_region 1 with fail
  rw [← hW, ← hbe]
  clear hW hbe
  go_upto_region 2 with (go_at_call 50; refine HO.out.mono ?_; rintro e w1 ⟨B, Tb, rfl, h1⟩; have H1 := Lib.hid h1; clear h1)
  have hX1 : BoxS w1 b s := by rw [HBE.out]; exact HW.out.2.below H1.out.2.2.2
  have hw1 : Below w.heap.size w w1 := HW.out.1.trans (H1.out.2.2.2.mono HW.out.1.size)
  have hl4 : 0 < s.l4.length := by have := HE.out; omega
  obtain ⟨a4, h4⟩ : ∃ a4, s.A4 = some a4 := by
    obtain ⟨ad, e, _⟩ := at_rg HS.out.2.1.r4 (i := 0) hl4
    exact ⟨ad, e⟩
  have x4 := hX1.c4
  rw [h4] at x4
  have gl : ((l.length : Int) != (s.l4.length : Int)) = false := by rw [HE.out.1]; simp
  have HX := Lib.hid (And.intro hX1 hw1)
  have H4 := Lib.hid h4
  have HL := Lib.hid HE.out.1
  have l25 : (s.l4.length : Int) ≤ 25 := by have := HE.out; omega
  clear hX1 hw1 hl4 h4 x0 x1 x2 x3
  go_wp2_with fail
  go_loopw [29] (fun i wr => ∃ j : Nat, j ≤ s.l4.length ∧ i = .int .i64 j ∧ Hid ((∀ k, k < j → (rgAt s.sh.cs k).1 ≤ tat l k ∧ tat l k ≤ (rgAt s.sh.cs k).2) ∧ Below w1.heap.size w1 wr)) (fun i _ => 60 - (intOf i).toNat)
  case atStart => exact ⟨0, Nat.zero_le _, rfl, Lib.hid ⟨fun k hk => absurd hk (Nat.not_lt_zero _), Below.refl _ _⟩⟩
  case round =>
    obtain ⟨j, hj, rfl, HJ⟩ := hrel
    have hwr : Below w.heap.size w wr := HX.out.2.trans (HJ.out.2.mono HX.out.2.size)
    by_cases hlt : j < s.l4.length
    · obtain ⟨a5, e4, hg1, hg2⟩ := at_rg (Kd.C_below HS.out.2.1.r4 hwr) hlt
      rw [H4.out] at e4
      obtain rfl := Option.some.inj e4
      have hlti : (j : Int) < (s.l4.length : Int) := by omega
      have hltl : (j : Int) < (l.length : Int) := by have := HL.out; omega
      have j0 : (0 : Int) ≤ (j : Int) := by omega
      obtain ⟨x, hx⟩ : ∃ x, x = tat l j := ⟨_, rfl⟩
      obtain ⟨g1, hgg1⟩ : ∃ g, g = (rgAt (s.l4.map pr) j).1 := ⟨_, rfl⟩
      obtain ⟨g2, hgg2⟩ : ∃ g, g = (rgAt (s.l4.map pr) j).2 := ⟨_, rfl⟩
      rw [← hgg1] at hg1
      rw [← hgg2] at hg2
      have hv0 : wr.cell? (ad.add j) = some (.int .i64 x) := by
        have := HS.out.2.2.1 j (.int .i64 (tat l j)) (by simp [nums, tat, show j < l.length by have := HL.out; omega, List.getD_eq_getElem?_getD])
        rw [hx]
        exact (hwr.cell (cell_size this)).trans this
      obtain ⟨wa, hwa⟩ : ∃ wa, wa = wr.alloc (.cells #[.int .i64 g1, .int .i64 g2] 24) := ⟨_, rfl⟩
      have hba : Below wr.heap.size wr wa := by rw [hwa]; exact (Below.refl _ _).alloc (Nat.le_refl _) _
      have y0 : wa.cell? ⟨wr.heap.size, 0, none⟩ = some (.int .i64 g1) := by rw [hwa]; simp [go_sem]
      have y1 : wa.cell? ⟨wr.heap.size, 1, none⟩ = some (.int .i64 g2) := by rw [hwa]; simp [go_sem]
      have hv := (hba.cell (cell_size hv0)).trans hv0
      have HA := Lib.hid (And.intro hwr (HJ.out.2.trans (hba.mono HJ.out.2.size)))
      have HG := Lib.hid (And.intro hx (And.intro hgg1 hgg2))
      clear hx hgg1 hgg2 hba hwr hv0
      by_cases hin : g1 ≤ x ∧ x ≤ g2
      · have HIN : Hid ((!outB g1 g2 x) = true) := Lib.hid (by rw [out_iff]; simp [hin])
        have HI := Lib.hid hin
        clear hin
        go_upto_region 9 with fail
        rw [← hwa]
        clear hwa hg1 hg2
        have hS : Below wa.heap.size wa wa.drew := (Below.refl _ _).drew
        refine wp_region_held_list (k := 11) rfl (fun w' => Below wa.heap.size wa w') (by kernel_rfl) ?_
        generalize wa.drew = W0 at hS ⊢
        refine tk 0 (.pointer (some ⟨wr.heap.size, 0, none⟩)) rfl (fun w' hw' => by go_simp) hS ?_
        refine tk 1 (.int .i64 g1) rfl (fun w' hw' => by have q := held_now hw' y0; go_simp) hS ?_
        refine tk 2 (.pointer (some ⟨wr.heap.size, 1, none⟩)) rfl (fun w' hw' => by go_simp) hS ?_
        refine tk 3 (.int .i64 g2) rfl (fun w' hw' => by have q := held_now hw' y1; go_simp) hS ?_
        (try simp only [Act.put, List.setIfInBounds_toArray, List.set_cons_zero, List.set_cons_succ])
        refine tk 4 (.slice (some ad) l.length c) rfl (fun w' hw' => by go_simp) hS ?_
        refine tk 5 (.int .i64 j) rfl (fun w' hw' => by go_simp) hS ?_
        refine tk 6 (.pointer (some (ad.add j))) rfl (fun w' hw' => by go_simp) hS ?_
        refine tk 7 (.int .i64 x) rfl (fun w' hw' => by have q := held_now hw' hv; go_simp) hS ?_
        (try simp only [Act.put, List.setIfInBounds_toArray, List.set_cons_zero, List.set_cons_succ])
        refine step_list (i := 8) (by kernel_rfl) rfl (by rfl) (fun K hK => ?_)
        go_simp
        have hSa : Below wa.heap.size wa (W0.alloc (.cells #[.int .i64 x] 2)) := hS.alloc hS.size _
        refine hK _ _ hSa ?_
        clear hK K
        (try simp only [Act.put, List.setIfInBounds_toArray, List.set_cons_zero, List.set_cons_succ])
        refine step_list (i := 9) (by kernel_rfl) rfl (by rfl) (fun K hK => ?_)
        go_simp
        refine (within1 g1 g2 x W0).mono ?_
        rintro e W5 ⟨rfl, hb5⟩
        have hS5 : Below wa.heap.size wa W5 := hS.trans (hb5.mono hS.size)
        rw [HIN.out]
        refine hK _ _ hS5 ?_
        clear hK K hS hSa hb5
        have hS := hS5
        clear hS5
        (try simp only [Act.put, List.setIfInBounds_toArray, List.set_cons_zero, List.set_cons_succ])
        refine tk 10 (.bool false) rfl (fun w' hw' => by go_simp) hS ?_
        have H5 := Lib.hid (HA.out.2.trans (hS.mono HA.out.2.size))
        refine wpAnyH_done (by kernel_rfl) ?_ _
        clear hS y0 y1 hv
        go_wp2_with fail
        go_roundw
        case rel =>
          refine ⟨j + 1, by omega, by go_num, Lib.hid ⟨fun k hk => ?_, H5.out⟩⟩
          by_cases e : k = j
          · subst e
            rw [← HG.out.1]
            have h1 := HG.out.2.1
            have h2 := HG.out.2.2
            have h3 := HI.out
            show (rgAt (s.l4.map pr) k).1 ≤ x ∧ x ≤ (rgAt (s.l4.map pr) k).2
            rw [← h1, ← h2]; exact h3
          · exact HJ.out.1 k (by omega)
        case measure => simp [intOf]; omega
      · have HIN : Hid ((!outB g1 g2 x) = false) := Lib.hid (by rw [out_iff]; simp; omega)
        have HI := Lib.hid hin
        clear hin
        go_upto_region 9 with fail
        rw [← hwa]
        clear hwa hg1 hg2
        have hS : Below wa.heap.size wa wa.drew := (Below.refl _ _).drew
        refine wp_region_held_list (k := 11) rfl (fun w' => Below wa.heap.size wa w') (by kernel_rfl) ?_
        generalize wa.drew = W0 at hS ⊢
        refine tk 0 (.pointer (some ⟨wr.heap.size, 0, none⟩)) rfl (fun w' hw' => by go_simp) hS ?_
        refine tk 1 (.int .i64 g1) rfl (fun w' hw' => by have q := held_now hw' y0; go_simp) hS ?_
        refine tk 2 (.pointer (some ⟨wr.heap.size, 1, none⟩)) rfl (fun w' hw' => by go_simp) hS ?_
        (try simp only [Act.put, List.setIfInBounds_toArray, List.set_cons_zero, List.set_cons_succ])
        refine tk 3 (.int .i64 g2) rfl (fun w' hw' => by have q := held_now hw' y1; go_simp) hS ?_
        refine tk 4 (.slice (some ad) l.length c) rfl (fun w' hw' => by go_simp) hS ?_
        refine tk 5 (.int .i64 j) rfl (fun w' hw' => by go_simp) hS ?_
        refine tk 6 (.pointer (some (ad.add j))) rfl (fun w' hw' => by go_simp) hS ?_
        (try simp only [Act.put, List.setIfInBounds_toArray, List.set_cons_zero, List.set_cons_succ])
        refine tk 7 (.int .i64 x) rfl (fun w' hw' => by have q := held_now hw' hv; go_simp) hS ?_
        refine step_list (i := 8) (by kernel_rfl) rfl (by rfl) (fun K hK => ?_)
        go_simp
        have hSa : Below wa.heap.size wa (W0.alloc (.cells #[.int .i64 x] 2)) := hS.alloc hS.size _
        refine hK _ _ hSa ?_
        clear hK K
        (try simp only [Act.put, List.setIfInBounds_toArray, List.set_cons_zero, List.set_cons_succ])
        refine step_list (i := 9) (by kernel_rfl) rfl (by rfl) (fun K hK => ?_)
        go_simp
        refine (within1 g1 g2 x W0).mono ?_
        rintro e W5 ⟨rfl, hb5⟩
        have hS5 : Below wa.heap.size wa W5 := hS.trans (hb5.mono hS.size)
        rw [HIN.out]
        refine hK _ _ hS5 ?_
        clear hK K hS hSa hb5
        have hS := hS5
        clear hS5
        (try simp only [Act.put, List.setIfInBounds_toArray, List.set_cons_zero, List.set_cons_succ])
        refine tk 10 (.bool true) rfl (fun w' hw' => by go_simp) hS ?_
        have H5 := Lib.hid (HA.out.2.trans (hS.mono HA.out.2.size))
        refine wpAnyH_done (by kernel_rfl) ?_ _
        clear hS y0 y1 hv
        go_wp2_with fail
        have hno : ¬ InL s.sh l := fun h => HI.out (by
          have := h.2 j (by rw [ShM.len4]; exact hlt)
          rw [HG.out.1, HG.out.2.1, HG.out.2.2]; exact this)
        obtain ⟨rfl, rfl⟩ : n = 0 ∧ er = 3 := by
          rcases HRES.out with h | h
          · exact absurd h.1 hno
          · exact h.2
        refine bodyPost_ret (results_tmp2 rfl _ _ _) rfl ?_
        exact ⟨rfl, HX.out.2.trans (H5.out.mono HX.out.2.size)⟩
    · obtain rfl : j = s.l4.length := by omega
      have hinl : InL s.sh l := ⟨by rw [ShM.len4]; exact HL.out, fun k hk => by rw [ShM.len4] at hk; exact HJ.out.1 k hk⟩
      obtain ⟨hn, rfl⟩ : n = wrongS s.sh (tat l) ∧ er = 0 := by
        rcases HRES.out with h | h
        · exact h.2
        · exact absurd hinl h.1
      have hnlt : ¬ ((s.l4.length : Int) < (s.l4.length : Int)) := by omega
      have hbk := H1.out.1.below HJ.out.2
      have b0 := hbk.b0
      have b5 := hbk.b5
      have hll : (leastT s.sh).length = l.length := by rw [(least_in HS.out.1).1, hinl.1]
      obtain ⟨W2, hW2⟩ : ∃ W2, W2 = wr.setRow Tb (nums .i64 l).toArray := ⟨_, rfl⟩
      have hlen : (nums .i64 l).length = l.length := by simp [nums]
      have hcp : ∀ ty, (Builtin.copy_ #[27, 27] ty #[.slice (some ⟨Tb, 0, none⟩) (leastT s.sh).length (leastT s.sh).length, .slice (some ad) l.length c]).run Tryd.prog wr = .ok (.int .i64 l.length) W2 := fun ty => by
        have h := run_copy_row Tryd.prog wr 27 27 ty 2 Tb 0 (leastT s.sh).length (leastT s.sh).length ad l.length c (nums .i64 (leastT s.sh)).toArray 2 (nums .i64 l) Tryd.underlying27 (by kernel_rfl) hbk.tab (by rw [hlen, hll]; exact (Nat.min_self _).symm)
          (fun k v hv => by have h1 := HS.out.2.2.1 k v hv; exact (hwr.cell (cell_size h1)).trans h1) (by simp [nums, hll]) (nums_one _ _)
        rw [hlen] at h
        rw [h, hW2]
        congr 2
        have : (nums .i64 (leastT s.sh)).length = l.length := by rw [← hll]; simp [nums]
        simp [hlen, this]
      have hbk2 : BookAt W2 B Tb s (.map none) l := by
        have hsz : Below w.heap.size w W2 := by
          rw [hW2]
          exact hwr.grown ⟨rfl, rfl, rfl, by simp, fun k _ hk => setRow_other wr Tb k _ (fun e => hk (by rw [e]))⟩ hwr.size (fun k e => by cases e; have := H1.out; have := HW.out.1.size; omega)
        refine ⟨?_, ?_, hbk.ne, HS.out.2.1.below hsz⟩
        · rw [hW2, setRow_other wr Tb B _ (Ne.symm hbk.ne), ← hll]; exact hbk.box
        · rw [hW2]; exact setRow_heap wr Tb _ _ _ _ hbk.tab
      have hb2 : Below w.heap.size w W2 := by
        rw [hW2]
        exact hwr.grown ⟨rfl, rfl, rfl, by simp, fun k _ hk => setRow_other wr Tb k _ (fun e => hk (by rw [e]))⟩ hwr.size (fun k e => by cases e; have := H1.out; have := HW.out.1.size; omega)
      have HWR := Lib.hid (wrong_any B Tb s (.map none) l W2 hbk2 (tok_in HS.out.1 hinl))
      have HN := Lib.hid (And.intro hn hb2)
      clear hbk hll hlen hbk2 hb2 hW2 hinl hn hwr
      go_wp2_with (go_at_call 52; refine HWR.out.mono ?_; rintro e w3 ⟨rfl, h3⟩; rw [← HN.out.1]; have H4 := Lib.hid h3; clear h3)
      refine bodyPost_ret (results_tmp2 rfl _ _ _) rfl ?_
      exact ⟨rfl, HN.out.2.trans (H4.out.mono HN.out.2.size)⟩
def InW3 (l : List Int) : Prop := ∀ k, k < l.length → -1 ≤ tat l k ∧ tat l k ≤ 1
set_option maxHeartbeats 4000000 in
set_option maxRecDepth 100000 in
theorem weightsT_any (s : ShM) (A : Option Addr) (c : Nat) (l : List Int) (w : World) (h : ShR w s) (hS : s.Ok) (hl : Kd.C (Kd.int .i64) w A l.length l) (hlc : l.length ≤ c) (he : l.length = s.l0.length + s.l1.length + 1) (n er : Int)
    (hres : (InW3 l ∧ n = boundS s.sh (wsW s.l0.length s.l1.length l) ∧ er = 0) ∨ (¬ InW3 l ∧ n = 0 ∧ er = 3)) :
    Calls Tryd.prog 22 #[.agg #[.slice s.A0 s.l0.length s.c0, .slice s.A1 s.l1.length s.c1, .int .i64 s.a2, .int .i64 s.a3, .slice s.A4 s.l4.length s.c4], .slice A l.length c] w fun e w' => e = .returned (.tuple #[.int .i64 n, .int .i64 er]) ∧ Below w.heap.size w w' := by
  obtain ⟨W, hW⟩ : ∃ W, W = w.alloc (.cells #[.slice s.A0 s.l0.length s.c0, .slice s.A1 s.l1.length s.c1, .int .i64 s.a2, .int .i64 s.a3, .slice s.A4 s.l4.length s.c4] 26) := ⟨_, rfl⟩
  have hb : Below w.heap.size w W := by rw [hW]; exact (Below.refl _ _).alloc (Nat.le_refl _) _
  have hX : BoxS W w.heap.size s := by rw [hW]; exact box_new w s
  have HW := Lib.hid (And.intro hb hX)
  have HO := Lib.hid (open_ok s W (h.below hb) hS)
  have n5 : (s.l0.length : Int) ≤ 5 := by have := hS.n5; have := s.len0; unfold Sh.n at this; omega
  have m5 : (s.l1.length : Int) ≤ 5 := by have := hS.m5; have := s.len1; unfold Sh.m at this; omega
  have gn : ((l.length : Int) != (s.l0.length : Int) + (s.l1.length : Int) + 1) = false := by simp; omega
  have w1 : IntKind.i64.wrap ((s.l0.length : Int) + (s.l1.length : Int)) = (s.l0.length : Int) + (s.l1.length : Int) := IntWalk.i64_in _ (by omega)
  have w2 : IntKind.i64.wrap ((s.l0.length : Int) + (s.l1.length : Int) + 1) = (s.l0.length : Int) + (s.l1.length : Int) + 1 := IntWalk.i64_in _ (by omega)
  have l11 : (l.length : Int) ≤ 11 := by omega
  have x0 := hX.c0
  have x1 := hX.c1
  have x2 := hX.c2
  have x3 := hX.c3
  have x4 := hX.c4
  obtain ⟨b, hbe⟩ : ∃ b, b = w.heap.size := ⟨_, rfl⟩
  rw [← hbe] at x0 x1 x2 x3 x4
  have HBE := Lib.hid hbe
  have hlr : ReadsInt w .i64 A l.length l := Kd.reads_of_C (d := (0 : Int)) (h1 := fun _ => rfl) hl
  obtain ⟨ad, rfl, hcell⟩ := reads_some hlr (by omega)
  have HS := Lib.hid (And.intro hS (And.intro h (And.intro hcell (And.intro hlc hlr))))
  have HE := Lib.hid he
  have HRES := Lib.hid hres
  clear h hS hb hX hl hlc hcell he hres hlr
  go_enter Tryd.func22, Tryd.ntmps22
  go_upto_region 1 with fail
  rw [← hW, ← hbe]
  clear hW hbe
  go_upto_region 2 with (go_at_call 50; refine HO.out.mono ?_; rintro e w1 ⟨B, Tb, rfl, h1⟩; have H1 := Lib.hid h1; clear h1)
  have hX1 : BoxS w1 b s := by rw [HBE.out]; exact HW.out.2.below H1.out.2.2.2
  have hw1 : Below w.heap.size w w1 := HW.out.1.trans (H1.out.2.2.2.mono HW.out.1.size)
  have x0 := hX1.c0
  have x1 := hX1.c1
  have HX := Lib.hid (And.intro hX1 hw1)
  clear hX1 hw1 x2 x3 x4
  go_wp2_with fail
  go_loopw [33] (fun i wr => ∃ j : Nat, j ≤ l.length ∧ i = .int .i64 j ∧ Hid ((∀ k, k < j → -1 ≤ tat l k ∧ tat l k ≤ 1) ∧ Below w1.heap.size w1 wr)) (fun i _ => 60 - (intOf i).toNat)
  case atStart => exact ⟨0, Nat.zero_le _, rfl, Lib.hid ⟨fun k hk => absurd hk (Nat.not_lt_zero _), Below.refl _ _⟩⟩
  case round =>
    obtain ⟨j, hj, rfl, HJ⟩ := hrel
    have hwr : Below w.heap.size w wr := HX.out.2.trans (HJ.out.2.mono HX.out.2.size)
    by_cases hlt : j < l.length
    · have hlti : (j : Int) < (l.length : Int) := by omega
      have j0 : (0 : Int) ≤ (j : Int) := by omega
      obtain ⟨x, hx⟩ : ∃ x, x = tat l j := ⟨_, rfl⟩
      have hv0 : wr.cell? (ad.add j) = some (.int .i64 x) := by
        have := HS.out.2.2.1 j (.int .i64 (tat l j)) (by simp [nums, tat, hlt, List.getD_eq_getElem?_getD])
        rw [hx]
        exact (hwr.cell (cell_size this)).trans this
      have HWI := Lib.hid (within1 (-1) 1 x wr)
      have HA := Lib.hid hwr
      have HG := Lib.hid hx
      clear hx hwr
      by_cases hin : -1 ≤ x ∧ x ≤ 1
      · have HIN : Hid ((!outB (-1) 1 x) = true) := Lib.hid (by rw [out_iff]; simp; omega)
        have HI := Lib.hid hin
        clear hin
        go_wp2_with (go_at_call 51; refine HWI.out.mono ?_; rintro e w5 ⟨rfl, h5⟩; rw [HIN.out]; have H5 := Lib.hid h5; clear h5)
        go_roundw
        case rel =>
          refine ⟨j + 1, by omega, by go_num, Lib.hid ⟨fun k hk => ?_, HJ.out.2.trans (H5.out.mono HJ.out.2.size)⟩⟩
          by_cases e : k = j
          · subst e
            rw [← HG.out]; exact HI.out
          · exact HJ.out.1 k (by omega)
        case measure => simp [intOf]; omega
      · have HIN : Hid ((!outB (-1) 1 x) = false) := Lib.hid (by rw [out_iff]; simp; omega)
        have HI := Lib.hid hin
        clear hin
        go_wp2_with (go_at_call 51; refine HWI.out.mono ?_; rintro e w5 ⟨rfl, h5⟩; rw [HIN.out]; have H5 := Lib.hid h5; clear h5)
        have hno : ¬ InW3 l := fun h => HI.out (by rw [HG.out]; exact h j hlt)
        obtain ⟨rfl, rfl⟩ : n = 0 ∧ er = 3 := by
          rcases HRES.out with h | h
          · exact absurd h.1 hno
          · exact h.2
        refine bodyPost_ret (results_tmp2 rfl _ _ _) rfl ?_
        exact ⟨rfl, HA.out.trans (H5.out.mono HA.out.size)⟩
    · obtain rfl : j = l.length := by omega
      have hin : InW3 l := fun k hk => HJ.out.1 k hk
      obtain ⟨hn, rfl⟩ : n = boundS s.sh (wsW s.l0.length s.l1.length l) ∧ er = 0 := by
        rcases HRES.out with h | h
        · exact h.2
        · exact absurd hin h.1
      have hnlt : ¬ ((l.length : Int) < (l.length : Int)) := by omega
      have HWR := Lib.hid (bound_any B Tb s (.map none) (leastT s.sh) ad l.length c l wr (H1.out.1.below HJ.out.2) HS.out.1 HE.out HS.out.2.2.2.1
        (fun k hk => by have h1 := HS.out.2.2.1 k (.int .i64 (tat l k)) (by simp [nums, tat, hk, List.getD_eq_getElem?_getD]); exact (hwr.cell (cell_size h1)).trans h1)
        (fun k => by
          by_cases hk : k < l.length
          · exact hin k hk
          · unfold tat; rw [List.getD_eq_getElem?_getD, List.getElem?_eq_none (by omega)]; simp))
      have HN := Lib.hid (And.intro hn hwr)
      clear hin hn hwr
      go_wp2_with (go_at_call 57; refine HWR.out.mono ?_; rintro e w3 ⟨rfl, h3⟩; rw [← HN.out.1]; have H4 := Lib.hid h3; clear h3)
      refine bodyPost_ret (results_tmp2 rfl _ _ _) rfl ?_
      exact ⟨rfl, HN.out.2.trans (H4.out.mono HN.out.2.size)⟩
theorem ends_best {S : Sh} (hS : S.Ok) (h0 : offS S = 0) {κ : Kn} (hg : κ.Goal) (hi : κ.Is S) : Ends S κ (κ.val S (tat (loL S κ (bestT S)))) (κ.val S (tat (hiL S κ (bestT S)))) := (ends_is hS hg hi (best_in hS) h0).2.2.2.2
set_option maxHeartbeats 4000000 in
set_option maxRecDepth 100000 in
theorem spanT_not (s : ShM) (o p : Int) (w : World) (hv : VarsAt w) (h : ShR w s) (hS : s.Ok) (ho : 0 ≤ o ∧ o < s.l0.length) (hp : 0 ≤ p ∧ p < s.l1.length) (h0 : 0 < offS s.sh) :
    Calls Tryd.prog 29 #[.agg #[.slice s.A0 s.l0.length s.c0, .slice s.A1 s.l1.length s.c1, .int .i64 s.a2, .int .i64 s.a3, .slice s.A4 s.l4.length s.c4], .int .i64 o, .int .i64 p] w fun e w' => e = .returned (.tuple #[.agg #[.int .i64 0, .int .i64 0], .int .i64 24]) ∧ Below w.heap.size w w' := by
  obtain ⟨W, hW⟩ : ∃ W, W = w.alloc (.cells #[.slice s.A0 s.l0.length s.c0, .slice s.A1 s.l1.length s.c1, .int .i64 s.a2, .int .i64 s.a3, .slice s.A4 s.l4.length s.c4] 26) := ⟨_, rfl⟩
  obtain ⟨b, hbe⟩ : ∃ b, b = w.heap.size := ⟨_, rfl⟩
  have hb : Below w.heap.size w W := by rw [hW]; exact (Below.refl _ _).alloc (Nat.le_refl _) _
  have hX : BoxS W b s := by rw [hW, hbe]; exact box_new w s
  obtain ⟨W2, hW2⟩ : ∃ W2, W2 = W.alloc (.cells #[.int .i64 0, .int .i64 0] 24) := ⟨_, rfl⟩
  obtain ⟨r6, hr6⟩ : ∃ r6, r6 = b + 1 := ⟨_, rfl⟩
  have hsz : W.heap.size = r6 := by rw [hW, hr6, hbe]; simp
  have hb2 : Below W.heap.size W W2 := by rw [hW2]; exact (Below.refl _ _).alloc (Nat.le_refl _) _
  have hX2 := hX.below hb2
  have h6 : W2.heap[r6]? = some (.cells #[.int .i64 0, .int .i64 0] 24 (0, 0)) := by rw [hW2, ← hsz]; exact heap_alloc_last _ _
  have hw2 : Below w.heap.size w W2 := hb.trans (hb2.mono hb.size)
  have H6 := Lib.hid (And.intro h6 (And.intro hw2 (And.intro (by omega : w.heap.size ≤ r6) (And.intro hX2 (And.intro (by omega : w.heap.size ≤ b) (by omega : b ≠ r6))))))
  have HC := Lib.hid (check_any s W2 (h.below hw2))
  have HER := Lib.hid ((csE_ok s).2 hS)
  have n5 : (s.l0.length : Int) ≤ 5 := by have := hS.n5; have := s.len0; unfold Sh.n at this; omega
  have m5 : (s.l1.length : Int) ≤ 5 := by have := hS.m5; have := s.len1; unfold Sh.m at this; omega
  have wr1 : IntKind.i64.wrap ((s.l0.length : Int) - 1) = (s.l0.length : Int) - 1 := IntWalk.i64_in _ (by omega)
  have wr2 : IntKind.i64.wrap ((s.l1.length : Int) - 1) = (s.l1.length : Int) - 1 := IntWalk.i64_in _ (by omega)
  have HS := Lib.hid (And.intro hS (And.intro hv (And.intro h h0)))
  have HOP := Lib.hid (And.intro ho hp)
  have x0 := hX2.c0
  have x1 := hX2.c1
  have x2 := hX2.c2
  have x3 := hX2.c3
  have x4 := hX2.c4
  clear h hS hv h0 hb hX hb2 hX2 h6 hw2 hsz
  go_enter Tryd.func29, Tryd.ntmps29
  go_upto_region 1 with fail
  rw [← hW, ← hbe, ← hr6, ← hW2]
  clear hW hbe hr6 hW2
  go_upto_region 2 with (go_at_call 20; refine HC.out.mono ?_; rintro e w1 ⟨rfl, h1⟩; rw [HER.out]; have H1 := Lib.hid h1; clear h1)
  have hX1 := H6.out.2.2.2.1.below H1.out
  have x0 := hX1.c0
  have x1 := hX1.c1
  have HWA : Hid (∀ W, Calls Tryd.prog 51 #[.int .i64 0, .int .i64 ((s.l0.length : Int) - 1), .slice (some ⟨W.heap.size, 0, none⟩) 1 1] (W.alloc (.cells #[.int .i64 o] 2)) fun e w' => e = .returned (.bool (!outB 0 ((s.l0.length : Int) - 1) o)) ∧ Below W.heap.size W w') := Lib.hid fun W => within1 _ _ _ W
  have HWB : Hid (∀ W, Calls Tryd.prog 51 #[.int .i64 0, .int .i64 ((s.l1.length : Int) - 1), .slice (some ⟨W.heap.size, 0, none⟩) 1 1] (W.alloc (.cells #[.int .i64 p] 2)) fun e w' => e = .returned (.bool (!outB 0 ((s.l1.length : Int) - 1) p)) ∧ Below W.heap.size W w') := Lib.hid fun W => within1 _ _ _ W
  have HX1 := Lib.hid hX1
  have hin : Hid ((!outB 0 ((s.l0.length : Int) - 1) o) = true) := Lib.hid (by rw [out_iff]; have := HOP.out; simp; omega)
  have hout : Hid ((!outB 0 ((s.l1.length : Int) - 1) p) = true) := Lib.hid (by rw [out_iff]; have := HOP.out; simp; omega)
  clear hX1 x2 x3 x4
  have hfirst : True := trivial
  go_upto_region 4 with fail
  go_upto_region 6 with (first | (clear hfirst; go_at_call 51; refine (HWA.out _).mono ?_; rintro e w2 ⟨rfl, h2⟩; rw [hin.out]; have H2 := Lib.hid h2; have x1 := (HX1.out.below h2).c1; clear h2) | (go_at_call 51; refine (HWB.out _).mono ?_; rintro e w3 ⟨rfl, h3⟩; rw [hout.out]; have H3 := Lib.hid h3; clear h3))
  have HB3 : Hid (Below W2.heap.size W2 w3) := Lib.hid ((H1.out.trans (H2.out.mono H1.out.size)).trans (H3.out.mono (by have := H1.out.size; have := H2.out.size; omega)))
  have hw3 : Below w.heap.size w w3 := H6.out.2.1.trans (HB3.out.mono H6.out.2.1.size)
  have hX3 := H6.out.2.2.2.1.below HB3.out
  have x0 := hX3.c0
  have x1 := hX3.c1
  have x2 := hX3.c2
  have x3 := hX3.c3
  have x4 := hX3.c4
  have HH := Lib.hid (heldNot_ok s w3 (HS.out.2.1.below hw3) (HS.out.2.2.1.below hw3) HS.out.1 _ rfl HS.out.2.2.2)
  have HW3 := Lib.hid hw3
  clear hX3 hw3
  go_upto_region 8 with (go_at_call 62; refine HH.out.mono ?_; rintro e w4 ⟨rfl, h4⟩; have H4 := Lib.hid h4; clear h4)
  have k6 : w4.heap[r6]? = some (.cells #[.int .i64 0, .int .i64 0] 24 (0, 0)) := (H4.out.block _ (heap_lt ((HB3.out.block _ (heap_lt H6.out.1)).trans H6.out.1))).trans ((HB3.out.block _ (heap_lt H6.out.1)).trans H6.out.1)
  have c60 : w4.cell? ⟨r6, 0, none⟩ = some (.int .i64 0) := by rw [cell_of_row _ _ _ _ _ _ k6]; rfl
  have c61 : w4.cell? ⟨r6, 1, none⟩ = some (.int .i64 0) := by rw [cell_of_row _ _ _ _ _ _ k6]; rfl
  have f60 := frozen_of_row w4 r6 0 _ _ k6
  have f61 := frozen_of_row w4 r6 1 _ _ k6
  have K6 := Lib.hid k6
  clear k6 x0 x1 x2 x3 x4
  go_wp2_with fail
  have hz := set2_block (u := .int .i64 0) (v := .int .i64 0) K6.out
  refine bodyPost_ret (results_ct rfl _ _ r6 24 #[.int .i64 0, .int .i64 0] (0, 0) _ rfl hz Tryd.underlying24 rfl (by kernel_rfl)) rfl ?_
  exact ⟨rfl, below_setB (below_setB (HW3.out.trans (H4.out.mono HW3.out.size)) H6.out.2.2.1 _) H6.out.2.2.1 _⟩
set_option maxHeartbeats 4000000 in
set_option maxRecDepth 100000 in
theorem spanT_ok (s : ShM) (i q r : Nat) (w : World) (hv : VarsAt w) (h : ShR w s) (hS : s.Ok) (hq : q < s.l0.length) (hr : r < s.l1.length) (hi : i = q * s.l1.length + r) (h0 : offS s.sh = 0) (lo hi_ : Int) (hE : Ends s.sh (kCell s.sh.m i) lo hi_) :
    Calls Tryd.prog 29 #[.agg #[.slice s.A0 s.l0.length s.c0, .slice s.A1 s.l1.length s.c1, .int .i64 s.a2, .int .i64 s.a3, .slice s.A4 s.l4.length s.c4], .int .i64 q, .int .i64 r] w fun e w' => e = .returned (.tuple #[.agg #[.int .i64 lo, .int .i64 hi_], .int .i64 0]) ∧ Below w.heap.size w w' := by
  obtain ⟨o, hoq⟩ : ∃ o : Int, o = (q : Int) := ⟨_, rfl⟩
  obtain ⟨p, hpr⟩ : ∃ p : Int, p = (r : Int) := ⟨_, rfl⟩
  rw [← hoq, ← hpr]
  have ho : 0 ≤ o ∧ o < s.l0.length := by omega
  have hp : 0 ≤ p ∧ p < s.l1.length := by omega
  have hil : i < s.l4.length := by
    have h1 := cell_lt s.sh hS.len (o := q) (p := r) (by rw [ShM.len0]; exact hq) (by rw [ShM.len1]; exact hr)
    rw [ShM.len4, ShM.len1] at h1
    omega
  have hic : i < s.sh.cs.length := by rw [ShM.len4]; exact hil
  have hkis := kCell_is hS hic
  have hu := (ends_best hS h0 (κ := kCell s.sh.m i) trivial hkis).unique hE
  rw [kCell_val, kCell_val] at hu
  have l25 := ShM.l25 hS
  have hmul : o * (s.l1.length : Int) + p = (i : Int) := by rw [hoq, hpr, hi]; push_cast; rfl
  have hmb : 0 ≤ o * (s.l1.length : Int) := Int.mul_nonneg ho.1 (by omega)
  have wrm : IntKind.i64.wrap (o * (s.l1.length : Int)) = o * (s.l1.length : Int) := IntWalk.i64_in _ (by omega)
  have wri : IntKind.i64.wrap (i : Int) = (i : Int) := IntWalk.i64_in _ (by omega)
  have HU := Lib.hid (And.intro hu hil)
  clear hu hil hic hkis hE hi hq hr l25 hmb hoq hpr
  obtain ⟨W, hW⟩ : ∃ W, W = w.alloc (.cells #[.slice s.A0 s.l0.length s.c0, .slice s.A1 s.l1.length s.c1, .int .i64 s.a2, .int .i64 s.a3, .slice s.A4 s.l4.length s.c4] 26) := ⟨_, rfl⟩
  obtain ⟨b, hbe⟩ : ∃ b, b = w.heap.size := ⟨_, rfl⟩
  have hb : Below w.heap.size w W := by rw [hW]; exact (Below.refl _ _).alloc (Nat.le_refl _) _
  have hX : BoxS W b s := by rw [hW, hbe]; exact box_new w s
  obtain ⟨W2, hW2⟩ : ∃ W2, W2 = W.alloc (.cells #[.int .i64 0, .int .i64 0] 24) := ⟨_, rfl⟩
  obtain ⟨r6, hr6⟩ : ∃ r6, r6 = b + 1 := ⟨_, rfl⟩
  have hsz : W.heap.size = r6 := by rw [hW, hr6, hbe]; simp
  have hb2 : Below W.heap.size W W2 := by rw [hW2]; exact (Below.refl _ _).alloc (Nat.le_refl _) _
  have hX2 := hX.below hb2
  have h6 : W2.heap[r6]? = some (.cells #[.int .i64 0, .int .i64 0] 24 (0, 0)) := by rw [hW2, ← hsz]; exact heap_alloc_last _ _
  have hw2 : Below w.heap.size w W2 := hb.trans (hb2.mono hb.size)
  have H6 := Lib.hid (And.intro h6 (And.intro hw2 (And.intro (by omega : w.heap.size ≤ r6) (And.intro hX2 (And.intro (by omega : w.heap.size ≤ b) (by omega : b ≠ r6))))))
  have HC := Lib.hid (check_any s W2 (h.below hw2))
  have HER := Lib.hid ((csE_ok s).2 hS)
  have n5 : (s.l0.length : Int) ≤ 5 := by have := hS.n5; have := s.len0; unfold Sh.n at this; omega
  have m5 : (s.l1.length : Int) ≤ 5 := by have := hS.m5; have := s.len1; unfold Sh.m at this; omega
  have wr1 : IntKind.i64.wrap ((s.l0.length : Int) - 1) = (s.l0.length : Int) - 1 := IntWalk.i64_in _ (by omega)
  have wr2 : IntKind.i64.wrap ((s.l1.length : Int) - 1) = (s.l1.length : Int) - 1 := IntWalk.i64_in _ (by omega)
  have HS := Lib.hid (And.intro hS (And.intro hv (And.intro h h0)))
  have HOP := Lib.hid (And.intro ho hp)
  have x0 := hX2.c0
  have x1 := hX2.c1
  have x2 := hX2.c2
  have x3 := hX2.c3
  have x4 := hX2.c4
  clear h hS hv h0 hb hX hb2 hX2 h6 hw2 hsz
  go_enter Tryd.func29, Tryd.ntmps29
  go_upto_region 1 with fail
  rw [← hW, ← hbe, ← hr6, ← hW2]
  clear hW hbe hr6 hW2
  go_upto_region 2 with (go_at_call 20; refine HC.out.mono ?_; rintro e w1 ⟨rfl, h1⟩; rw [HER.out]; have H1 := Lib.hid h1; clear h1)
  have hX1 := H6.out.2.2.2.1.below H1.out
  have x0 := hX1.c0
  have x1 := hX1.c1
  have HWA : Hid (∀ W, Calls Tryd.prog 51 #[.int .i64 0, .int .i64 ((s.l0.length : Int) - 1), .slice (some ⟨W.heap.size, 0, none⟩) 1 1] (W.alloc (.cells #[.int .i64 o] 2)) fun e w' => e = .returned (.bool (!outB 0 ((s.l0.length : Int) - 1) o)) ∧ Below W.heap.size W w') := Lib.hid fun W => within1 _ _ _ W
  have HWB : Hid (∀ W, Calls Tryd.prog 51 #[.int .i64 0, .int .i64 ((s.l1.length : Int) - 1), .slice (some ⟨W.heap.size, 0, none⟩) 1 1] (W.alloc (.cells #[.int .i64 p] 2)) fun e w' => e = .returned (.bool (!outB 0 ((s.l1.length : Int) - 1) p)) ∧ Below W.heap.size W w') := Lib.hid fun W => within1 _ _ _ W
  have HX1 := Lib.hid hX1
  have hin : Hid ((!outB 0 ((s.l0.length : Int) - 1) o) = true) := Lib.hid (by rw [out_iff]; have := HOP.out; simp; omega)
  have hout : Hid ((!outB 0 ((s.l1.length : Int) - 1) p) = true) := Lib.hid (by rw [out_iff]; have := HOP.out; simp; omega)
  clear hX1 x2 x3 x4
  have hfirst : True := trivial
  go_upto_region 4 with fail
  go_upto_region 6 with (first | (clear hfirst; go_at_call 51; refine (HWA.out _).mono ?_; rintro e w2 ⟨rfl, h2⟩; rw [hin.out]; have H2 := Lib.hid h2; have x1 := (HX1.out.below h2).c1; clear h2) | (go_at_call 51; refine (HWB.out _).mono ?_; rintro e w3 ⟨rfl, h3⟩; rw [hout.out]; have H3 := Lib.hid h3; clear h3))
  have HB3 : Hid (Below W2.heap.size W2 w3) := Lib.hid ((H1.out.trans (H2.out.mono H1.out.size)).trans (H3.out.mono (by have := H1.out.size; have := H2.out.size; omega)))
  have hw3 : Below w.heap.size w w3 := H6.out.2.1.trans (HB3.out.mono H6.out.2.1.size)
  have hX3 := H6.out.2.2.2.1.below HB3.out
  have x0 := hX3.c0
  have x1 := hX3.c1
  have x2 := hX3.c2
  have x3 := hX3.c3
  have x4 := hX3.c4
  have HH := Lib.hid (held_ok s w3 (HS.out.2.1.below hw3) (HS.out.2.2.1.below hw3) HS.out.1 HS.out.2.2.2)
  have HW3 := Lib.hid hw3
  have HX3 := Lib.hid hX3
  clear hX3 hw3
  go_upto_region 9 with (go_at_call 62; refine HH.out.mono ?_; rintro e w4 ⟨B, Tb, fv, rfl, h4⟩; have H4 := Lib.hid h4; clear h4)
  have x1 := (HX3.out.below H4.out.2.2.2).c1
  have HW4 : Hid (Below w.heap.size w w4) := Lib.hid (HW3.out.trans (H4.out.2.2.2.mono HW3.out.size))
  have HSP := Lib.hid (span_any B Tb s fv (bestT s.sh) w4 H4.out.1 HS.out.1 (best_in HS.out.1) HS.out.2.2.2 w HS.out.2.1 HS.out.2.2.1 HW4.out (by have := H4.out; have := HW3.out.size; omega) i HU.out.2 lo hi_ HU.out.1.1.symm HU.out.1.2.symm)
  clear x0 x2 x3 x4
  go_wp2_with fail
  refine HSP.out.mono ?_
  rintro e w5 ⟨rfl, -, h5⟩
  have H5 := Lib.hid h5
  have k6 : w5.heap[r6]? = some (.cells #[.int .i64 0, .int .i64 0] 24 (0, 0)) := (H5.out.block r6 (by have h1 := heap_lt H6.out.1; have h2 := HB3.out.size; have h3 := H4.out.2.2.2.size; omega) (by have h1 := heap_lt H6.out.1; have h2 := HB3.out.size; have h3 := H4.out.2.2.1; simp; omega)).trans ((H4.out.2.2.2.block r6 (by have h1 := heap_lt H6.out.1; have h2 := HB3.out.size; omega)).trans ((HB3.out.block r6 (heap_lt H6.out.1)).trans H6.out.1))
  have c60 : w5.cell? ⟨r6, 0, none⟩ = some (.int .i64 0) := by rw [cell_of_row _ _ _ _ _ _ k6]; rfl
  have c61 : w5.cell? ⟨r6, 1, none⟩ = some (.int .i64 0) := by rw [cell_of_row _ _ _ _ _ _ k6]; rfl
  have f60 := frozen_of_row w5 r6 0 _ _ k6
  have f61 := frozen_of_row w5 r6 1 _ _ k6
  have K6 := Lib.hid k6
  clear k6 h5
  go_wp2_with fail
  have hz := set2_block (u := .int .i64 lo) (v := .int .i64 hi_) K6.out
  refine bodyPost_ret (results_ct rfl _ _ r6 24 #[.int .i64 lo, .int .i64 hi_] (0, 0) _ rfl hz Tryd.underlying24 rfl (by kernel_rfl)) rfl ?_
  have hb5 : Below w.heap.size w w5 := HW4.out.trans (H5.out.below HW4.out.size (by have := H4.out.2.2.1; have := HW3.out.size; simp; omega))
  exact ⟨rfl, below_setB (below_setB hb5 H6.out.2.2.1 _) H6.out.2.2.1 _⟩
set_option maxHeartbeats 4000000 in
set_option maxRecDepth 100000 in
theorem sumT_ok (s : ShM) (w : World) (hv : VarsAt w) (h : ShR w s) (hS : s.Ok) (h0 : offS s.sh = 0) (lo hi_ : Int) (hE : Ends s.sh .upW lo hi_) :
    Calls Tryd.prog 33 #[.agg #[.slice s.A0 s.l0.length s.c0, .slice s.A1 s.l1.length s.c1, .int .i64 s.a2, .int .i64 s.a3, .slice s.A4 s.l4.length s.c4]] w fun e w' => e = .returned (.tuple #[.agg #[.int .i64 lo, .int .i64 hi_], .int .i64 0]) ∧ Below w.heap.size w w' := by
  have hu := (ends_best hS h0 (κ := .upW) trivial trivial).unique hE
  have hen := ends_is hS (κ := .upW) trivial trivial (best_in hS) h0
  obtain ⟨t1, ht1⟩ : ∃ t1, t1 = hiL s.sh .upW (bestT s.sh) := ⟨_, rfl⟩
  obtain ⟨t2, ht2⟩ : ∃ t2, t2 = loL s.sh .upW (bestT s.sh) := ⟨_, rfl⟩
  rw [← ht1] at hu hen
  rw [← ht2] at hu hen
  have HT := Lib.hid (And.intro ht1 (And.intro ht2 (And.intro hu hen)))
  clear hu hen ht1 ht2 hE
  obtain ⟨W, hW⟩ : ∃ W, W = w.alloc (.cells #[.slice s.A0 s.l0.length s.c0, .slice s.A1 s.l1.length s.c1, .int .i64 s.a2, .int .i64 s.a3, .slice s.A4 s.l4.length s.c4] 26) := ⟨_, rfl⟩
  obtain ⟨b, hbe⟩ : ∃ b, b = w.heap.size := ⟨_, rfl⟩
  have hb : Below w.heap.size w W := by rw [hW]; exact (Below.refl _ _).alloc (Nat.le_refl _) _
  have hX : BoxS W b s := by rw [hW, hbe]; exact box_new w s
  obtain ⟨W2, hW2⟩ : ∃ W2, W2 = W.alloc (.cells #[.int .i64 0, .int .i64 0] 24) := ⟨_, rfl⟩
  obtain ⟨r6, hr6⟩ : ∃ r6, r6 = b + 1 := ⟨_, rfl⟩
  have hsz : W.heap.size = r6 := by rw [hW, hr6, hbe]; simp
  have hb2 : Below W.heap.size W W2 := by rw [hW2]; exact (Below.refl _ _).alloc (Nat.le_refl _) _
  have hX2 := hX.below hb2
  have h6 : W2.heap[r6]? = some (.cells #[.int .i64 0, .int .i64 0] 24 (0, 0)) := by rw [hW2, ← hsz]; exact heap_alloc_last _ _
  have hw2 : Below w.heap.size w W2 := hb.trans (hb2.mono hb.size)
  have H6 := Lib.hid (And.intro h6 (And.intro hw2 (And.intro (by omega : w.heap.size ≤ r6) (And.intro hX2 (And.intro (by omega : w.heap.size ≤ b) (by omega : b ≠ r6))))))
  have HO := Lib.hid (held_ok s W2 (hv.below hw2) (h.below hw2) hS h0)
  have HS := Lib.hid (And.intro hS (And.intro hv (And.intro h h0)))
  have x0 := hX2.c0
  have x1 := hX2.c1
  have x2 := hX2.c2
  have x3 := hX2.c3
  have x4 := hX2.c4
  clear h hv hS h0 hb hX hb2 hX2 h6 hw2 hsz
  go_enter Tryd.func33, Tryd.ntmps33
  go_upto_region 1 with fail
  rw [← hW, ← hbe, ← hr6, ← hW2]
  clear hW hbe hr6 hW2
  go_upto_region 4 with (go_at_call 62; refine HO.out.mono ?_; rintro e w1 ⟨B, Tb, fv, rfl, h1⟩; have H1 := Lib.hid h1; clear h1)
  have hw1 : Below w.heap.size w w1 := H6.out.2.1.trans (H1.out.2.2.2.mono H6.out.2.1.size)
  obtain ⟨w2, hw2⟩ : ∃ w2, w2 = w1.alloc (.cells #[.int .i64 0, .int .i64 0] 24) := ⟨_, rfl⟩
  obtain ⟨r7, hr7⟩ : ∃ r7, r7 = w1.heap.size := ⟨_, rfl⟩
  have hb2 : Below w1.heap.size w1 w2 := by rw [hw2]; exact (Below.refl _ _).alloc (Nat.le_refl _) _
  have h7 : w2.heap[r7]? = some (.cells #[.int .i64 0, .int .i64 0] 24 (0, 0)) := by rw [hw2, hr7]; exact heap_alloc_last _ _
  have k61 := (H1.out.2.2.2.block _ (heap_lt H6.out.1)).trans H6.out.1
  have k62 := (hb2.block _ (heap_lt k61)).trans k61
  have hB2 := H1.out.1.below hb2
  have hwB := hw1.trans (hb2.mono hw1.size)
  have H2 : Hid (BookAt w2 B Tb s fv (bestT s.sh) ∧ Below w.heap.size w w2 ∧ w2.heap[r7]? = some (.cells #[.int .i64 0, .int .i64 0] 24 (0, 0)) ∧ w2.heap[r6]? = some (.cells #[.int .i64 0, .int .i64 0] 24 (0, 0)) ∧ (W2.heap.size ≤ B ∧ W2.heap.size ≤ Tb ∧ r6 < W2.heap.size ∧ w.heap.size ≤ W2.heap.size ∧ B < r7 ∧ Tb < r7 ∧ r6 < r7)) := Lib.hid ⟨hB2, hwB, h7, k62, H1.out.2.1, H1.out.2.2.1, heap_lt H6.out.1, H6.out.2.1.size, by have := heap_lt H1.out.1.box; omega, by have := heap_lt H1.out.1.tab; omega, by have := heap_lt k61; omega⟩
  have hv2 := HS.out.2.1.below hwB
  have g0 := hv2.g0
  have g1 := hv2.g1
  have q0 := hv2.b0
  have q1 := hv2.b1
  have HP := Lib.hid (push_any .upW trivial B Tb s trivial fv (bestT s.sh) w2 hB2 HS.out.1 (best_in HS.out.1) HS.out.2.2.2 w HS.out.2.1 HS.out.2.2.1 hwB (by have := H2.out.2.2.2.2; omega) 0 0 3 0 (-1) rfl rfl rfl)
  clear hw1 hb2 h7 k61 k62 hB2 hwB hv2 x0 x1 x2 x3 x4
  go_upto_region 5 with fail
  rw [← hw2, ← hr7]
  clear hw2 hr7
  go_upto_region 6 with (go_at_call 65; refine HP.out.mono ?_; rintro e W3 ⟨rfl, h3⟩; have H3 := Lib.hid h3; clear h3)
  have H3b : Hid (BookAt W3 B Tb s fv t1 ∧ HoleL [Tb] w2.heap.size w2 W3) := Lib.hid (by
    have h := H3.out
    rw [show pushL s.sh .upW 20000 (bestT s.sh) = t1 from HT.out.1.symm] at h
    exact h)
  have hne := H2.out.2.2.2.2
  have k7 : W3.heap[r7]? = some (.cells #[.int .i64 0, .int .i64 0] 24 (0, 0)) := (H3b.out.2.block _ (heap_lt H2.out.2.2.1) (by simp; omega)).trans H2.out.2.2.1
  have k6 : W3.heap[r6]? = some (.cells #[.int .i64 0, .int .i64 0] 24 (0, 0)) := (H3b.out.2.block _ (heap_lt H2.out.2.2.2.1) (by simp; omega)).trans H2.out.2.2.2.1
  have hw3 : Below w.heap.size w W3 := H2.out.2.1.trans (H3b.out.2.below H2.out.2.1.size (by simp; omega))
  have hall1 := all_any B Tb s fv t1 W3 H3b.out.1 (tok_in HS.out.1 HT.out.2.2.2.1)
  rw [show allS s.l0.length s.l1.length (tat t1) = hi_ from by have h := HT.out.2.2.1.2; simp only [Kn.val] at h; rw [ShM.len0, ShM.len1] at h; exact h] at hall1
  have HAL := Lib.hid hall1
  have H3c := Lib.hid (And.intro k7 (And.intro k6 hw3))
  clear hne k7 k6 hw3 hall1 g0 g1 q0 q1
  go_upto_region 7 with (go_at_call 66; refine HAL.out.mono ?_; rintro e W4 ⟨rfl, h4⟩; have H4 := Lib.hid h4; have f7 := frozen_of_row W4 r7 1 _ _ ((h4.block _ (heap_lt H3c.out.1)).trans H3c.out.1); have d7 : W4.cell? ⟨r7, 1, none⟩ = some (.int .i64 0) := (by rw [cell_of_row _ _ _ _ _ _ ((h4.block _ (heap_lt H3c.out.1)).trans H3c.out.1)]; rfl); clear h4)
  obtain ⟨W5, hW5⟩ : ∃ W5, W5 = W4.setCell ⟨r7, 1, none⟩ (.int .i64 hi_) := ⟨_, rfl⟩
  have k7 : W5.heap[r7]? = some (.cells #[.int .i64 0, .int .i64 hi_] 24 (0, 0)) := by rw [hW5]; exact heap_setCell_same W4 r7 1 _ _ _ ((H4.out.block _ (heap_lt H3c.out.1)).trans H3c.out.1)
  have hne := H2.out.2.2.2.2
  have far : ∀ {k : Nat} {o : Obj}, W3.heap[k]? = some o → k ≠ r7 → W5.heap[k]? = some o := fun {k o} ho hk => by rw [hW5]; exact heap_far ((H4.out.block _ (heap_lt ho)).trans ho) (by simp only; exact hk) _
  have hw5 : Below w.heap.size w W5 := by rw [hW5]; exact below_setB (H3c.out.2.2.trans (H4.out.mono H3c.out.2.2.size)) (by simp only; omega) _
  have hB5 : BookAt W5 B Tb s fv t1 := ⟨far H3b.out.1.box (by omega), far H3b.out.1.tab (by omega), H3b.out.1.ne, HS.out.2.2.1.below hw5⟩
  have k6 := far H3c.out.2.1 (by omega)
  have hv5 := HS.out.2.1.below hw5
  have g0 := hv5.g0
  have g1 := hv5.g1
  have q0 := hv5.b0
  have q1 := hv5.b1
  have HP2 := Lib.hid (push_any .dnW trivial B Tb s trivial fv t1 W5 hB5 HS.out.1 HT.out.2.2.2.1 HT.out.2.2.2.2.1 w HS.out.2.1 HS.out.2.2.1 hw5 (by omega) 3 0 0 0 (-1) rfl rfl rfl)
  have H5 := Lib.hid (And.intro k7 (And.intro k6 hw5))
  clear far hne hw5 hB5 hv5 k7 k6 d7 f7
  rw [← hW5]
  clear hW5
  go_upto_region 8 with (go_at_call 65; refine HP2.out.mono ?_; rintro e W6 ⟨rfl, h6⟩; have H7 := Lib.hid h6; clear h6)
  have H7b : Hid (BookAt W6 B Tb s fv t2 ∧ HoleL [Tb] W5.heap.size W5 W6) := Lib.hid (by
    have h := H7.out
    rw [show pushL s.sh .dnW 20000 t1 = t2 from by rw [HT.out.2.1, HT.out.1]; rfl] at h
    exact h)
  have hne := H2.out.2.2.2.2
  have k7 : W6.heap[r7]? = some (.cells #[.int .i64 0, .int .i64 hi_] 24 (0, 0)) := (H7b.out.2.block _ (heap_lt H5.out.1) (by simp; omega)).trans H5.out.1
  have k6 : W6.heap[r6]? = some (.cells #[.int .i64 0, .int .i64 0] 24 (0, 0)) := (H7b.out.2.block _ (heap_lt H5.out.2.1) (by simp; omega)).trans H5.out.2.1
  have hw6 : Below w.heap.size w W6 := H5.out.2.2.trans (H7b.out.2.below H5.out.2.2.size (by simp; omega))
  have hall2 := all_any B Tb s fv t2 W6 H7b.out.1 (tok_in HS.out.1 HT.out.2.2.2.2.2.1)
  rw [show allS s.l0.length s.l1.length (tat t2) = lo from by have h := HT.out.2.2.1.1; simp only [Kn.val] at h; rw [ShM.len0, ShM.len1] at h; exact h] at hall2
  have HAL2 := Lib.hid hall2
  have H7c := Lib.hid (And.intro k7 (And.intro k6 hw6))
  clear hne k7 k6 hw6 hall2 g0 g1 q0 q1
  go_upto_region 9 with (go_at_call 66; refine HAL2.out.mono ?_; rintro e W8 ⟨rfl, h4⟩; have H8 := Lib.hid h4; have f7 := frozen_of_row W8 r7 0 _ _ ((h4.block _ (heap_lt H7c.out.1)).trans H7c.out.1); have d7 : W8.cell? ⟨r7, 0, none⟩ = some (.int .i64 0) := (by rw [cell_of_row _ _ _ _ _ _ ((h4.block _ (heap_lt H7c.out.1)).trans H7c.out.1)]; rfl); clear h4)
  obtain ⟨W9, hW9⟩ : ∃ W9, W9 = W8.setCell ⟨r7, 0, none⟩ (.int .i64 lo) := ⟨_, rfl⟩
  have k7 : W9.heap[r7]? = some (.cells #[.int .i64 lo, .int .i64 hi_] 24 (0, 0)) := by rw [hW9]; exact heap_setCell_same W8 r7 0 _ _ _ ((H8.out.block _ (heap_lt H7c.out.1)).trans H7c.out.1)
  have hne := H2.out.2.2.2.2
  have hw9 : Below w.heap.size w W9 := by rw [hW9]; exact below_setB (H7c.out.2.2.trans (H8.out.mono H7c.out.2.2.size)) (by simp only; omega) _
  have k6 : W9.heap[r6]? = some (.cells #[.int .i64 0, .int .i64 0] 24 (0, 0)) := by rw [hW9]; exact heap_far ((H8.out.block _ (heap_lt H7c.out.2.1)).trans H7c.out.2.1) (by simp only; omega) _
  have c60 : W9.cell? ⟨r6, 0, none⟩ = some (.int .i64 0) := by rw [cell_of_row _ _ _ _ _ _ k6]; rfl
  have c61 : W9.cell? ⟨r6, 1, none⟩ = some (.int .i64 0) := by rw [cell_of_row _ _ _ _ _ _ k6]; rfl
  have f60 := frozen_of_row W9 r6 0 _ _ k6
  have f61 := frozen_of_row W9 r6 1 _ _ k6
  have K6 := Lib.hid k6
  have m0 : W9.cell? ⟨r7, 0, none⟩ = some (.int .i64 lo) := by rw [cell_of_row _ _ _ _ _ _ k7]; rfl
  have m1 : W9.cell? ⟨r7, 1, none⟩ = some (.int .i64 hi_) := by rw [cell_of_row _ _ _ _ _ _ k7]; rfl
  have HW9 := Lib.hid hw9
  clear hne hw9 k6 k7 d7 f7
  rw [← hW9]
  clear hW9
  go_wp2_with fail
  have hz := set2_block (u := .int .i64 lo) (v := .int .i64 hi_) K6.out
  refine bodyPost_ret (results_ct rfl _ _ r6 24 #[.int .i64 lo, .int .i64 hi_] (0, 0) _ rfl hz Tryd.underlying24 rfl (by kernel_rfl)) rfl ?_
  exact ⟨rfl, below_setB (below_setB HW9.out H6.out.2.2.1 _) H6.out.2.2.1 _⟩
theorem wpList_push_cut {ops : Array Oper} {rest : List Oper} {o : Oper} {a : Act} {w : World} {Q : Exit → Act → World → Prop} (hgd : o.guard = none) (s x : Operand)
    (hop : o.op = Op.call { callee := Callee.builtin Builtin.append, args := #[s, x], argTypes := #[35, 35] }) (ao : Option Addr) (n : Nat) (xs : List Int) (y : Int) (hs : a.eval s = .slice ao n n) (hr : ReadsInt w .i64 ao n xs) (hnone : ao = none → n = 0)
    (g : Nat) (hx : a.eval x = .slice (some ⟨g, 0, none⟩) 1 1) (hc : w.cell? ⟨g, 0, none⟩ = some (.int .i64 y)) (hmax : n < 1000)
    (hK : ∀ A c w', w'.ownsRow w.heap.size 3 1 (.slice A (n + 1) c) (n + 1) (nums .i64 (xs ++ [y])) → w.grownBy w' none → wpList Tryd.prog ops Q rest (a.put o.dst (.slice A (n + 1) c)) w') : wpList Tryd.prog ops Q (o :: rest) a w := by
  obtain ⟨i0, hi, hz0, hz1, hz2⟩ := info_parts infoInt
  have hl : xs.length = n := hr.1
  refine wpList_plain hgd fun K hK' => ?_
  have := step_append_grows (P := Tryd.prog) (ops := #[]) (E := True) (o := o) (a := a) (w := w) (K := K) (Q := Q) hgd s x 35 hop 3 i0 (.int .i64 0) 1 8 Tryd.underlying35 hi hz0 hz1 hz2 rfl (by decide) ao n n (nums .i64 xs) hs
    (fun e => ⟨hnone e, hnone e⟩) (by simp [nums, hl]) (fun b e => by subst e; rw [← hl] at hr; exact reads_cells hr b rfl) ⟨g, 0, none⟩ 1 1 [.int .i64 y] hx rfl (fun j u hu => by
      cases j with
      | zero => simp at hu; rw [← hu]; exact hc
      | succ j => simp at hu) (by simp [Value.oneCell']) (by omega) (by unfold maxLen; omega) (by omega) (fun v' w' h1 h2 => by
      obtain ⟨A, c, rfl⟩ := own_opened h1
      exact hK' _ _ (hK A c w' (by rw [show nums .i64 (xs ++ [y]) = nums .i64 xs ++ [.int .i64 y] by simp [nums]]; exact h1) h2))
  rwa [if_pos (by simp [Region.wanted, hgd])] at this
def sureK (E : Nat → Int × Int) (j : Nat) : List Int := ((List.range j).filter fun i => decide ((E i).1 = (E i).2)).map Int.ofNat
theorem sureK_succ (E : Nat → Int × Int) (j : Nat) : sureK E (j + 1) = if (E j).1 = (E j).2 then sureK E j ++ [(j : Int)] else sureK E j := by
  unfold sureK
  rw [List.range_succ, List.filter_append, List.map_append]
  by_cases h : (E j).1 = (E j).2 <;> simp [h]
set_option maxHeartbeats 4000000 in
set_option maxRecDepth 100000 in
theorem sureT_ok (s : ShM) (w : World) (hv : VarsAt w) (h : ShR w s) (hS : s.Ok) (h0 : offS s.sh = 0) (E : Nat → Int × Int) (hE : ∀ i, i < s.l4.length → Ends s.sh (kCell s.sh.m i) (E i).1 (E i).2) :
    Calls Tryd.prog 31 #[.agg #[.slice s.A0 s.l0.length s.c0, .slice s.A1 s.l1.length s.c1, .int .i64 s.a2, .int .i64 s.a3, .slice s.A4 s.l4.length s.c4]] w fun e w' => ∃ A c, e = .returned (.tuple #[.slice A (sureK E s.l4.length).length c, .int .i64 0]) ∧ w'.ownsRow w.heap.size 3 1 (.slice A (sureK E s.l4.length).length c) (sureK E s.l4.length).length (nums .i64 (sureK E s.l4.length)) ∧ Below w.heap.size w w' := by
  obtain ⟨W, hW⟩ : ∃ W, W = w.alloc (.cells #[.slice s.A0 s.l0.length s.c0, .slice s.A1 s.l1.length s.c1, .int .i64 s.a2, .int .i64 s.a3, .slice s.A4 s.l4.length s.c4] 26) := ⟨_, rfl⟩
  obtain ⟨b, hbe⟩ : ∃ b, b = w.heap.size := ⟨_, rfl⟩
  have hb : Below w.heap.size w W := by rw [hW]; exact (Below.refl _ _).alloc (Nat.le_refl _) _
  have hX : BoxS W b s := by rw [hW, hbe]; exact box_new w s
  have HW := Lib.hid (And.intro hb hX)
  have HO := Lib.hid (held_ok s W (hv.below hb) (h.below hb) hS h0)
  have HS := Lib.hid (And.intro hS (And.intro hv (And.intro h h0)))
  have HE := Lib.hid hE
  have l25 := ShM.l25 hS
  have l25i : (s.l4.length : Int) ≤ 25 := by omega
  have hm1 : 1 ≤ s.l1.length := by have := hS.m1; have := s.len1; unfold Sh.m at this; omega
  have x0 := hX.c0
  have x1 := hX.c1
  have x2 := hX.c2
  have x3 := hX.c3
  have x4 := hX.c4
  clear h hv hS h0 hb hX hE l25 hm1
  go_enter Tryd.func31, Tryd.ntmps31
  go_upto_region 1 with fail
  rw [← hW, ← hbe]
  clear hW hbe
  go_upto_region 2 with (go_at_call 62; refine HO.out.mono ?_; rintro e w1 ⟨B, Tb, fv, rfl, h1⟩; have H1 := Lib.hid h1; clear h1)
  have hX1 := HW.out.2.below H1.out.2.2.2
  have x4 := hX1.c4
  have hw1 : Below w.heap.size w w1 := HW.out.1.trans (H1.out.2.2.2.mono HW.out.1.size)
  have HX := Lib.hid (And.intro hw1 (by have := H1.out; have := HW.out.1.size; omega : w.heap.size ≤ B ∧ w.heap.size ≤ Tb))
  clear x0 x1 x2 x3 hX1 hw1
  go_wp2_with fail
  go_loopw [6, 23] (fun v6 i wr => ∃ (j : Nat) (A : Option Addr) (n c : Nat), j ≤ s.l4.length ∧ i = .int .i64 j ∧ v6 = .slice A n c ∧ n ≤ c ∧ n ≤ j ∧ Hid ((∃ tj, BookAt wr B Tb s fv tj ∧ InL s.sh tj ∧ wrongS s.sh (tat tj) = 0) ∧ wr.ownsRow w1.heap.size 3 1 (.slice A n c) n (nums .i64 (sureK E j)) ∧ HoleL [Tb] w1.heap.size w1 wr)) (fun _ i _ => 60 - (intOf i).toNat)
  case atStart => exact ⟨0, none, 0, 0, Nat.zero_le _, rfl, rfl, Nat.le_refl _, Nat.le_refl _, Lib.hid ⟨⟨_, H1.out.1, best_in HS.out.1, HS.out.2.2.2⟩, ⟨rfl, .inl ⟨rfl, rfl⟩⟩, HoleL.refl _ _ _⟩⟩
  case round =>
    obtain ⟨j, A, n, c, hj, rfl, rfl, hnc, hnj, HJ⟩ := hrel
    have hwr : Below w.heap.size w wr := HX.out.1.trans (HJ.out.2.2.below HX.out.1.size (by have := HX.out; simp; omega))
    by_cases hlt : j < s.l4.length
    · have hlti : (j : Int) < (s.l4.length : Int) := by omega
      have j0 : (0 : Int) ≤ (j : Int) := by omega
      obtain ⟨⟨tj, hbk, hin, hz⟩, -⟩ := HJ.out
      have hic : j < s.sh.cs.length := by rw [ShM.len4]; exact hlt
      have hkis := kCell_is HS.out.1 hic
      have hen := ends_is HS.out.1 (κ := kCell s.sh.m j) trivial hkis hin hz
      have hu := hen.2.2.2.2.unique (HE.out j hlt)
      rw [kCell_val, kCell_val] at hu
      obtain ⟨lo, hlo⟩ : ∃ lo, lo = (E j).1 := ⟨_, rfl⟩
      obtain ⟨hi_, hhi⟩ : ∃ hi_, hi_ = (E j).2 := ⟨_, rfl⟩
      have HSP := Lib.hid (span_any B Tb s fv tj wr hbk HS.out.1 hin hz w HS.out.2.1 HS.out.2.2.1 hwr HX.out.2 j hlt lo hi_ (by rw [hlo, ← hu.1]) (by rw [hhi, ← hu.2]))
      have HEN := Lib.hid (And.intro hen.2.2.1 hen.2.2.2.1)
      have HG := Lib.hid (And.intro hlo hhi)
      clear hbk hin hz hic hkis hen hu hlo hhi
      go_upto_region 10 with (go_at_call 63; refine HSP.out.mono ?_; rintro e w5 ⟨rfl, h5⟩; have H5 := Lib.hid h5; clear h5)
      obtain ⟨W6, hW6⟩ : ∃ W6, W6 = w5.alloc (.cells #[.int .i64 lo, .int .i64 hi_] 24) := ⟨_, rfl⟩
      have hb6 : Below w5.heap.size w5 W6 := by rw [hW6]; exact (Below.refl _ _).alloc (Nat.le_refl _) _
      have m0 : W6.cell? ⟨w5.heap.size, 0, none⟩ = some (.int .i64 lo) := by rw [hW6]; simp [go_sem]
      have m1 : W6.cell? ⟨w5.heap.size, 1, none⟩ = some (.int .i64 hi_) := by rw [hW6]; simp [go_sem]
      have hB := H1.out
      have hX := HX.out
      have hTb : Tb < w1.heap.size := heap_lt hB.1.tab
      have hh6 : HoleL [Tb] wr.heap.size wr W6 := H5.out.2.trans (HoleL.of_below hb6 (Nat.le_refl _)) H5.out.2.size
      have hown : W6.ownsRow w1.heap.size 3 1 (.slice A n c) n (nums .i64 (sureK E j)) := by
        refine ⟨HJ.out.2.1.1, ?_⟩
        rcases HJ.out.2.1.2 with h | ⟨g, cap, cur, hv, hg, hh, hr⟩
        · exact .inl h
        · exact .inr ⟨g, cap, cur, hv, hg, (hh6.block g (heap_lt hh) (by simp; omega)).trans hh, hr⟩
      have hh1 : HoleL [Tb] w1.heap.size w1 W6 := HJ.out.2.2.trans hh6 HJ.out.2.2.size
      have H6 : Hid ((∃ tj, BookAt W6 B Tb s fv tj ∧ InL s.sh tj ∧ wrongS s.sh (tat tj) = 0) ∧ W6.ownsRow w1.heap.size 3 1 (.slice A n c) n (nums .i64 (sureK E j)) ∧ HoleL [Tb] w1.heap.size w1 W6) := Lib.hid ⟨⟨_, H5.out.1.below hb6, HEN.out.1, HEN.out.2⟩, hown, hh1⟩
      rw [← hW6]
      clear hW6 hb6 hB hX hTb hh6 hown hh1
      by_cases hs : lo = hi_
      · have gs : (lo == hi_) = true := by rw [hs]; simp
        have HSU : Hid (sureK E (j + 1) = sureK E j ++ [(j : Int)]) := Lib.hid (by rw [sureK_succ, if_pos (by rw [← HG.out.1, ← HG.out.2]; exact hs)])
        clear hs
        have hcut := run_cut3 (P := Tryd.prog) W6 35 3 Tryd.underlying35 (i := Classical.choose (info_parts infoInt)) (Classical.choose_spec (info_parts infoInt)).1 A n c hnc
        have n25 : (n : Int) ≤ 25 := by omega
        go_upto_region 12 with (first | (at_builtin; refine wpList_push_cut rfl (.tmp 39) (.tmp 41) rfl A n (sureK E j) (j : Int) rfl ?hr ?hn W6.heap.size rfl ?hc (by omega) ?_; rotate_left 3; intro A' c' W7 hown' hg'; have H7 := Lib.hid (And.intro hown' hg'); clear hown' hg'))
        case hr => exact (own_reads' H6.out.2.1).allocS _
        case hn => rintro rfl; rcases H6.out.2.1.2 with ⟨hv, h0⟩ | ⟨g, cap, cur, hv, _⟩; exact h0; cases hv
        case hc => simp [go_sem]
        go_wp2_with fail
        go_roundw
        case rel =>
          have hb7 : Below W6.heap.size W6 W7 := ((Below.refl W6.heap.size W6).alloc (Nat.le_refl _) _).trans ((below_of_grown H7.out.2).mono (by simp))
          obtain ⟨⟨tj, hbk, hin, hz⟩, hown, hh⟩ := H6.out
          refine ⟨j + 1, A', n + 1, c', by omega, by go_num, rfl, ?_, by omega, Lib.hid ⟨⟨tj, hbk.below hb7, hin, hz⟩, ?_, hh.trans (HoleL.of_below hb7 (Nat.le_refl _)) hh.size⟩⟩
          · rcases H7.out.1.2 with ⟨hv, h0⟩ | ⟨g, cap, cur, hv, _, _, hc, _⟩
            · cases hv
            · cases hv; exact hc
          · rw [HSU.out]
            have h1 := hh.size
            exact own_lower H7.out.1 (by simp; omega)
        case measure => simp [intOf]; omega
      · have gs : (lo == hi_) = false := beq_eq_false_iff_ne.2 hs
        have HSU : Hid (sureK E (j + 1) = sureK E j) := Lib.hid (by rw [sureK_succ, if_neg (by rw [← HG.out.1, ← HG.out.2]; exact hs)])
        clear hs
        go_wp2_with fail
        go_roundw
        case rel => exact ⟨j + 1, A, n, c, by omega, by go_num, rfl, hnc, by omega, Lib.hid ⟨H6.out.1, by rw [HSU.out]; exact H6.out.2.1, H6.out.2.2⟩⟩
        case measure => simp [intOf]; omega
    · obtain rfl : j = s.l4.length := by omega
      have hnlt : ¬ ((s.l4.length : Int) < (s.l4.length : Int)) := by omega
      have HF := Lib.hid hwr
      clear hwr
      go_wp2_with fail
      refine bodyPost_ret (results_tmp2 rfl _ _ _) rfl ?_
      have hown := HJ.out.2.1
      have hn : n = (sureK E s.l4.length).length := by have := hown.1; simp [nums] at this; exact this.symm
      subst hn
      exact ⟨A, c, rfl, own_lower hown HX.out.1.size, HF.out⟩
end Go.Proofs.YtcbhnhoicecnnaaDoor.Hand
namespace Go.Proofs.YtcbhnhoicecnnaaDoor.PrK
open Go.RowKit Go.Proofs.YtcbhnhoicecnnaaDoorW.PrintWords Go.Proofs.YtcbhnhoicecnnaaDoorW.PrintLast Go.Proofs.YtcbhnhoicecnnaaDoorW.PrintMore Go.Proofs.YtcbhnhoicecnnaaDoor.Hand
attribute [local go_sem] max2_int min2_int max_two min_two max_three min_three max_four min_four
set_option linter.unusedVariables false
set_option linter.unusedSimpArgs false
def peaveyref11_Tallies.f (l0_0 : List (S24)) (l0_1 : List (S24)) (a0_2 : Int) (a0_3 : Int) (l0_4 : List (S24)) : Option ((List (S24))) := (some (([] : List (S24)) : List (S24))).bind fun y129 => (if y129.length + l0_0.length < 8796093022208 then ((some (y129 ++ l0_0 : List (S24))).bind fun y132 => (if y132.length + l0_1.length < 8796093022208 then ((some (y132 ++ l0_1 : List (S24))).bind fun y135 => ((some (([(⟨a0_2, a0_3⟩ : S24)] : List (S24)) : List (S24))).bind fun y138 => (if y135.length + y138.length < 8796093022208 then (some (y135 ++ y138)) else (none)))) else (none))) else (none))
def peaveyref11_Tallies.T1 : Bool × List (List Nat × List Nat) := (true, [([], []), ([], []), ([1], [1]), ([0, 2], [0, 2]), ([], []), ([4], [4]), ([3, 5, 3], [3, 5]), ([], []), ([7], [7]), ([8], [8]), ([6, 9, 6], [6, 9]), ([10, 10, 0, 1, 2, 3, 4, 5, 6, 7, 8, 9, 10], [10])])
def peaveyref11_Tallies.B1 : List Nat := [0, 0, 2, 7, 0, 16, 63, 0, 128, 384, 1023, 2047]
theorem peaveyref11_Tallies.tab1 : rtab .any (opsOf Tryd.f68 1) = peaveyref11_Tallies.T1 := by kernel_rfl
theorem peaveyref11_Tallies.bits1 : waitsOk peaveyref11_Tallies.T1.2 peaveyref11_Tallies.B1 = true := by kernel_rfl
set_option maxHeartbeats 8000000 in
set_option maxRecDepth 100000 in
theorem peaveyref11_Tallies.calls (A0_0 : Option Addr) (c0_0 : Nat) (l0_0 : List (S24)) (A0_1 : Option Addr) (c0_1 : Nat) (l0_1 : List (S24)) (a0_2 : Int) (a0_3 : Int) (A0_4 : Option Addr) (c0_4 : Nat) (l0_4 : List (S24)) (r : List (S24)) (w : World) (hr0_0 : Kd.C k24 w A0_0 l0_0.length l0_0) (hc0_0 : l0_0.length ≤ c0_0) (hr0_1 : Kd.C k24 w A0_1 l0_1.length l0_1) (hc0_1 : l0_1.length ≤ c0_1) (hr0_4 : Kd.C k24 w A0_4 l0_4.length l0_4) (hc0_4 : l0_4.length ≤ c0_4) (h : peaveyref11_Tallies.f l0_0 l0_1 a0_2 a0_3 l0_4 = some r) :
    Calls Tryd.prog 68 #[.agg #[.slice A0_0 l0_0.length c0_0, .slice A0_1 l0_1.length c0_1, .int .i64 a0_2, .int .i64 a0_3, .slice A0_4 l0_4.length c0_4]] w fun e w' => ∃ v0_ : Value, e = .returned (v0_) ∧ Kd.R k24 24 w' w.heap.size (fun _ => True) v0_ r ∧ Below w.heap.size w w' := by
  have hu26 := Tryd.underlying26
  have hu24 := Tryd.underlying24
  have HR0_0 := Aside0.mk hr0_0
  have HC0_0 := Aside0.mk hc0_0
  clear hr0_0 hc0_0
  have HR0_1 := Aside0.mk hr0_1
  have HC0_1 := Aside0.mk hc0_1
  clear hr0_1 hc0_1
  have HR0_4 := Aside0.mk hr0_4
  have HC0_4 := Aside0.mk hc0_4
  clear hr0_4 hc0_4
  have HB := Aside0.mk (Below.refl w.heap.size w)
  have H : ((some (([] : List (S24)) : List (S24))).bind fun y129 => (if y129.length + l0_0.length < 8796093022208 then ((some (y129 ++ l0_0 : List (S24))).bind fun y132 => (if y132.length + l0_1.length < 8796093022208 then ((some (y132 ++ l0_1 : List (S24))).bind fun y135 => ((some (([(⟨a0_2, a0_3⟩ : S24)] : List (S24)) : List (S24))).bind fun y138 => (if y135.length + y138.length < 8796093022208 then (some (y135 ++ y138)) else (none)))) else (none))) else (none))) = some r := h
  clear h
  obtain ⟨y129, hy129⟩ : ∃ y_ : List (S24), y_ = (([] : List (S24))) := ⟨_, rfl⟩
  replace H : (if y129.length + l0_0.length < 8796093022208 then ((some (y129 ++ l0_0 : List (S24))).bind fun y132 => (if y132.length + l0_1.length < 8796093022208 then ((some (y132 ++ l0_1 : List (S24))).bind fun y135 => ((some (([(⟨a0_2, a0_3⟩ : S24)] : List (S24)) : List (S24))).bind fun y138 => (if y135.length + y138.length < 8796093022208 then (some (y135 ++ y138)) else (none)))) else (none))) else (none)) = some r := by first | (rw [hy129]; with_reducible exact H) | (have H2_ := (Option.bind_some _ _).symm.trans H; rw [hy129]; with_reducible exact H2_) | (have H2_ := (Option.bind_some _ _).symm.trans H; with_reducible exact H2_) | with_reducible exact H | (rw [hy129]; exact H) | exact H
  have Ny129 := Aside0.mk hy129
  clear hy129
  by_cases c2 : y129.length + l0_0.length < 8796093022208
  · rw [if_pos c2] at H
    have LMc2 := Aside0.mk c2
    clear c2
    obtain ⟨y132, hy132⟩ : ∃ y_ : List (S24), y_ = (y129 ++ l0_0) := ⟨_, rfl⟩
    replace H : (if y132.length + l0_1.length < 8796093022208 then ((some (y132 ++ l0_1 : List (S24))).bind fun y135 => ((some (([(⟨a0_2, a0_3⟩ : S24)] : List (S24)) : List (S24))).bind fun y138 => (if y135.length + y138.length < 8796093022208 then (some (y135 ++ y138)) else (none)))) else (none)) = some r := by first | (rw [hy132]; with_reducible exact H) | (have H2_ := (Option.bind_some _ _).symm.trans H; rw [hy132]; with_reducible exact H2_) | (have H2_ := (Option.bind_some _ _).symm.trans H; with_reducible exact H2_) | with_reducible exact H | (rw [hy132]; exact H) | exact H
    have Ny132 := Aside0.mk hy132
    clear hy132
    by_cases c3 : y132.length + l0_1.length < 8796093022208
    · rw [if_pos c3] at H
      have LMc3 := Aside0.mk c3
      clear c3
      obtain ⟨y135, hy135⟩ : ∃ y_ : List (S24), y_ = (y132 ++ l0_1) := ⟨_, rfl⟩
      replace H : ((some (([(⟨a0_2, a0_3⟩ : S24)] : List (S24)) : List (S24))).bind fun y138 => (if y135.length + y138.length < 8796093022208 then (some (y135 ++ y138)) else (none))) = some r := by first | (rw [hy135]; with_reducible exact H) | (have H2_ := (Option.bind_some _ _).symm.trans H; rw [hy135]; with_reducible exact H2_) | (have H2_ := (Option.bind_some _ _).symm.trans H; with_reducible exact H2_) | with_reducible exact H | (rw [hy135]; exact H) | exact H
      have Ny135 := Aside0.mk hy135
      clear hy135
      obtain ⟨y138, hy138⟩ : ∃ y_ : List (S24), y_ = (([(⟨a0_2, a0_3⟩ : S24)] : List (S24))) := ⟨_, rfl⟩
      replace H : (if y135.length + y138.length < 8796093022208 then (some (y135 ++ y138)) else (none)) = some r := by first | (rw [hy138]; with_reducible exact H) | (have H2_ := (Option.bind_some _ _).symm.trans H; rw [hy138]; with_reducible exact H2_) | (have H2_ := (Option.bind_some _ _).symm.trans H; with_reducible exact H2_) | with_reducible exact H | (rw [hy138]; exact H) | exact H
      have Ny138 := Aside0.mk hy138
      clear hy138
      by_cases c4 : y135.length + y138.length < 8796093022208
      · rw [if_pos c4] at H
        have LMc4 := Aside0.mk c4
        clear c4
        obtain ⟨y141, hy141⟩ : ∃ y_ : List (S24), y_ = (y135 ++ y138) := ⟨_, rfl⟩
        replace H : (some y141) = some r := by first | (rw [hy141]; with_reducible exact H) | (have H2_ := (Option.bind_some _ _).symm.trans H; rw [hy141]; with_reducible exact H2_) | (have H2_ := (Option.bind_some _ _).symm.trans H; with_reducible exact H2_) | with_reducible exact H | (rw [hy141]; exact H) | exact H
        have Ny141 := Aside0.mk hy141
        clear hy141
        obtain rfl := Option.some.inj H
        go_enter Tryd.func68, Tryd.ntmps68
        try go_wp2_with (first | ((with_reducible refine gate_dst (N := 1) rfl ?_); refine box_event ?hg (N := 1) ?hd (cs := #[.slice A0_0 l0_0.length c0_0, .slice A0_1 l0_1.length c0_1, .int .i64 a0_2, .int .i64 a0_3, .slice A0_4 l0_4.length c0_4]) (t := 26) ?hr ?_; (case hd => rfl); (case hg => rfl); (case hr => first | (go_simp; done) | (go_simp; rfl)); intro gb128 hg w5 hbox hb; have n0_ := Aside0.mk (below_step (by repeat (first | (with_reducible first | exact HB.out | apply below_alloc | apply pw_below_drewN | apply below_drew1) | exact HB.out)) hb); have n1_ := Aside0.mk (hbox); have n2_ := Aside0.mk ((by rw [hg]; exact (below_size (by repeat (first | (with_reducible first | exact HB.out | apply below_alloc | apply pw_below_drewN | apply below_drew1) | exact HB.out))) : w.heap.size ≤ gb128)); have n3_ := Aside0.mk ((by rw [hg]; exact (below_size (by repeat (first | (with_reducible first | exact HB.out | apply below_alloc | apply pw_below_drewN | apply below_drew1) | exact HB.out))) : w.heap.size ≤ gb128)); clear HB; have HB := n0_; have BK128 := n1_; have GW128 := n2_; have GE128 := n3_; clear n0_ n1_ n2_ n3_; clear hb hbox hg))
        have n0_ := Aside0.mk (blk_drew BK128.out)
        have n1_ := Aside0.mk (below_drew1 HB.out)
        clear BK128
        clear HB
        have BK128 := n0_
        have HB := n1_
        clear n0_ n1_
        refine start_ (n := 12) (S := fun w' => w'.cell? ⟨gb128, 0, none⟩ = some (.slice A0_0 l0_0.length c0_0) ∧ w'.cell? ⟨gb128, 1, none⟩ = some (.slice A0_1 l0_1.length c0_1) ∧ w'.cell? ⟨gb128, 2, none⟩ = some (.int .i64 a0_2) ∧ w'.cell? ⟨gb128, 3, none⟩ = some (.int .i64 a0_3) ∧ w'.cell? ⟨gb128, 4, none⟩ = some (.slice A0_4 l0_4.length c0_4)) (ds := []) #[false, false, false, false, false, false, false, false, false, false, false, false] (by kernel_rfl) rfl rfl ⟨(blk_cell BK128.out 0).trans rfl, (blk_cell BK128.out 1).trans rfl, (blk_cell BK128.out 2).trans rfl, (blk_cell BK128.out 3).trans rfl, (blk_cell BK128.out 4).trans rfl⟩ (fun hHeld => ?_); refine with_tabW peaveyref11_Tallies.tab1 peaveyref11_Tallies.bits1 (fun HT_ HW_ => ?_)
        generalize w5.drew = w6 at BK128 HB hHeld ⊢
        refine pure_ (i := 1) (N := some 4) (v := ?_) (a' := ?_) #[false, true, false, false, false, false, false, false, false, false, false, false] rfl rfl (any_of HT_.out (by kernel_rfl)) (fun _ _ _ h => h) (Or.inl ⟨by rfl, ?_⟩) ?_ ?_
        rotate_left
        · intro w'
          go_simp
          with_reducible rfl
        rotate_left
        · simp only [Act.put, List.setIfInBounds_toArray, List.set_cons_zero, List.set_cons_succ, i64_w, i32_w]
          rfl
        refine pure_ (i := 4) (N := some 7) (v := ?_) (a' := ?_) #[false, true, false, false, true, false, false, false, false, false, false, false] rfl rfl (any_of HT_.out (by kernel_rfl)) (fun _ _ _ h => h) (Or.inl ⟨by rfl, ?_⟩) ?_ ?_
        rotate_left
        · intro w'
          go_simp
          with_reducible rfl
        rotate_left
        · simp only [Act.put, List.setIfInBounds_toArray, List.set_cons_zero, List.set_cons_succ, i64_w, i32_w]
          rfl
        refine pure_ (i := 7) (N := some 10) (v := ?_) (a' := ?_) #[false, true, false, false, true, false, false, true, false, false, false, false] rfl rfl (any_of HT_.out (by kernel_rfl)) (fun _ _ _ h => h) (Or.inl ⟨by rfl, ?_⟩) ?_ ?_
        rotate_left
        · intro w'
          go_simp
          with_reducible rfl
        rotate_left
        · simp only [Act.put, List.setIfInBounds_toArray, List.set_cons_zero, List.set_cons_succ, i64_w, i32_w]
          rfl
        refine take_ (i := 2) (N := some 5) (v := ?_) (a' := ?_) #[false, true, true, false, true, false, false, true, false, false, false, false] rfl rfl (take_ofW HT_.out HW_.out (by kernel_rfl)) (fun _ _ _ h => h) (Or.inl ⟨by rfl, ?_⟩) hHeld ?_ ?_
        rotate_left
        · rintro w' ⟨s0, s1, s2, s3, s4⟩
          go_simp
          with_reducible rfl
        rotate_left
        · simp only [Act.put, List.setIfInBounds_toArray, List.set_cons_zero, List.set_cons_succ, i64_w, i32_w]
          rfl
        refine take_ (i := 5) (N := some 8) (v := ?_) (a' := ?_) #[false, true, true, false, true, true, false, true, false, false, false, false] rfl rfl (take_ofW HT_.out HW_.out (by kernel_rfl)) (fun _ _ _ h => h) (Or.inl ⟨by rfl, ?_⟩) hHeld ?_ ?_
        rotate_left
        · rintro w' ⟨s0, s1, s2, s3, s4⟩
          go_simp
          with_reducible rfl
        rotate_left
        · simp only [Act.put, List.setIfInBounds_toArray, List.set_cons_zero, List.set_cons_succ, i64_w, i32_w]
          rfl
        refine take_ (i := 8) (N := some 11) (v := ?_) (a' := ?_) #[false, true, true, false, true, true, false, true, true, false, false, false] rfl rfl (take_ofW HT_.out HW_.out (by kernel_rfl)) (fun _ _ _ h => h) (Or.inl ⟨by rfl, ?_⟩) hHeld ?_ ?_
        rotate_left
        · rintro w' ⟨s0, s1, s2, s3, s4⟩
          go_simp
          with_reducible rfl
        rotate_left
        · simp only [Act.put, List.setIfInBounds_toArray, List.set_cons_zero, List.set_cons_succ, i64_w, i32_w]
          rfl
        refine join_ (σ := Value × Value × Value × Value) 2 #[true, true, true, true, true, true, true, true, true, true, false, false] (fun s_ => [(3, s_.1), (6, s_.2.1), (9, s_.2.2.1), (12, s_.2.2.2)]) (fun s_ w' => (w'.cell? ⟨gb128, 0, none⟩ = some (.slice A0_0 l0_0.length c0_0) ∧ w'.cell? ⟨gb128, 1, none⟩ = some (.slice A0_1 l0_1.length c0_1) ∧ w'.cell? ⟨gb128, 2, none⟩ = some (.int .i64 a0_2) ∧ w'.cell? ⟨gb128, 3, none⟩ = some (.int .i64 a0_3) ∧ w'.cell? ⟨gb128, 4, none⟩ = some (.slice A0_4 l0_4.length c0_4)) ∧ (Kd.R k24 24 w' w.heap.size (fun k_ => some k_ ≠ (s_.2.2.2 : Value).ownBlock) s_.2.2.1 y135) ∧ (Kd.R k24 24 w' w.heap.size (fun k_ => some k_ ≠ (s_.2.2.1 : Value).ownBlock) s_.2.2.2 y138) ∧ (w'.heap[gb128]? = some (.cells #[.slice A0_0 l0_0.length c0_0, .slice A0_1 l0_1.length c0_1, .int .i64 a0_2, .int .i64 a0_3, .slice A0_4 l0_4.length c0_4] 26 (0, 0))) ∧ (Below w.heap.size w w')) ?_ ?_
        rotate_left
        · intro hCont
          refine two_ (i := 0) (j := 9) (Ni := some 3) (Nj := some 12) #[true, true, true, false, true, true, false, true, true, false, false, false] #[false, true, true, false, true, true, false, true, true, true, false, false] rfl rfl rfl rfl (two_of HT_.out (by kernel_rfl)) (by decide) (by decide) (fun K hK => ?_) (fun K hK => ?_)
          · skip
            refine Kd.R_lit_step k24 _ 24 ?hg (N := 3) ?hd (xs := ([] : List (S24))) (inner := []) (ok := fun _ => True) (okp := fun _ => True) ?hr ?hp (fun _ hk => hk) trivial (Below.refl _ _) (Nat.le_refl _) (by simp) ?_; (case hd => rfl); (case hg => rfl); (case hr => first | (go_simp; done) | (go_simp; rfl)); (case hp => exact (Reps.none _ _))
            intro v130 w7 ho8 hb hg_ hnew_
            clear hg_ hnew_
            (first | rw [← Ny129.out] at ho8 | (simp only [Int.reduceToNat] at ho8; rw [← Ny129.out] at ho8))
            have n0_ := Aside0.mk (Kd.R_lower ho8 (below_size (by repeat (first | (with_reducible first | exact HB.out | apply below_alloc | apply pw_below_drewN | apply below_drew1 | refine below_set ?_ GE128.out) | exact HB.out))))
            have n1_ := Aside0.mk (blk_below (g := gb128) (o := .cells #[.slice A0_0 l0_0.length c0_0, .slice A0_1 l0_1.length c0_1, .int .i64 a0_2, .int .i64 a0_3, .slice A0_4 l0_4.length c0_4] 26 (0, 0)) (by (with_reducible repeat (first | refine blk_drewN ?_ _ | refine blk_drew ?_ | refine blk_alloc ?_ _)); exact BK128.out) hb)
            have n2_ := Aside0.mk (below_step (by repeat (first | (with_reducible first | exact HB.out | apply below_alloc | apply pw_below_drewN | apply below_drew1 | refine below_set ?_ GE128.out) | exact HB.out)) hb)
            clear BK128
            clear HB
            have HO131 := n0_
            have BK128 := n1_
            have HB := n2_
            clear n0_ n1_ n2_
            clear hb ho8
            refine hK.out _ _ ⟨(blk_cell BK128.out 0).trans rfl, (blk_cell BK128.out 1).trans rfl, (blk_cell BK128.out 2).trans rfl, (blk_cell BK128.out 3).trans rfl, (blk_cell BK128.out 4).trans rfl⟩ (fun hHeld => ?_)
            clear hK K
            refine norm_ (a' := ?_) ?_ ?_
            rotate_left
            · show Act.put _ (some 3) _ = _
              simp only [Act.put, List.setIfInBounds_toArray, List.set_cons_zero, List.set_cons_succ, i64_w, i32_w]
              rfl
            refine two_ (i := 3) (j := 9) (Ni := some 6) (Nj := some 12) #[true, true, true, true, true, true, false, true, true, false, false, false] #[true, true, true, false, true, true, false, true, true, true, false, false] rfl rfl rfl rfl (two_of HT_.out (by kernel_rfl)) (by decide) (by decide) (fun K hK => ?_) (fun K hK => ?_)
            · skip
              refine Kd.R_append_rows_step k24 (w0 := w) w.heap.size (by rfl) (.tmp 3) (.tmp 5) 22 24 (.agg #[(.int .i64 0), (.int .i64 0)]) 16 rfl Tryd.underlying22 info24 rfl (by decide) (by omega) v130 y129 l0_0 _ _ _ (fun _ => True) (fun _ => False) rfl rfl ?aO ?aR (fun _ _ h => h) (fun _ h => h.elim) ?aF ?aB ?aS ?aL ?_
              (case aR => repeat (first | exact (Kd.C_below HR0_0.out HB.out) | (with_reducible refine Kd.C_alloc ?_ _) | (with_reducible refine Kd.C_drewN ?_ _) | (with_reducible refine Kd.C_drew ?_)))
              (case aB => exact (by repeat (first | (with_reducible first | exact HB.out | apply below_alloc | apply pw_below_drewN | apply below_drew1 | refine below_set ?_ GE128.out) | exact HB.out)))
              (case aF => exact (fun _ _ => trivial))
              (case aO => exact (by (with_reducible repeat (first | apply Kd.R_alloc | apply Kd.R_drewN | apply Kd.R_drew)); exact HO131.out))
              (case aS => exact (below_size (by repeat (first | (with_reducible first | exact HB.out | apply below_alloc | apply pw_below_drewN | apply below_drew1 | refine below_set ?_ GE128.out) | exact HB.out))))
              (case aL => have := LMc2.out; omega)
              intro v133 w9 ho hb hg hat
              rw [← Ny132.out] at ho
              have n0_ := Aside0.mk (blk_grown (g := gb128) (o := .cells #[.slice A0_0 l0_0.length c0_0, .slice A0_1 l0_1.length c0_1, .int .i64 a0_2, .int .i64 a0_3, .slice A0_4 l0_4.length c0_4] 26 (0, 0)) (by (with_reducible repeat (first | refine blk_drewN ?_ _ | refine blk_drew ?_ | refine blk_alloc ?_ _)); exact BK128.out) hg (Kd.R_ne HO131.out BK128.out (by decide)))
              have n1_ := Aside0.mk (hb)
              have n2_ := Aside0.mk (ho)
              clear BK128
              clear HB
              clear HO131
              have BK128 := n0_
              have HB := n1_
              have HO134 := n2_
              clear n0_ n1_ n2_
              clear ho hb hg hat
              refine hK.out _ _ ⟨(blk_cell BK128.out 0).trans rfl, (blk_cell BK128.out 1).trans rfl, (blk_cell BK128.out 2).trans rfl, (blk_cell BK128.out 3).trans rfl, (blk_cell BK128.out 4).trans rfl⟩ (fun hHeld => ?_)
              clear hK K
              refine norm_ (a' := ?_) ?_ ?_
              rotate_left
              · show Act.put _ (some 6) _ = _
                simp only [Act.put, List.setIfInBounds_toArray, List.set_cons_zero, List.set_cons_succ, i64_w, i32_w]
                rfl
              refine two_ (i := 6) (j := 9) (Ni := some 9) (Nj := some 12) #[true, true, true, true, true, true, true, true, true, false, false, false] #[true, true, true, true, true, true, false, true, true, true, false, false] rfl rfl rfl rfl (two_of HT_.out (by kernel_rfl)) (by decide) (by decide) (fun K hK => ?_) (fun K hK => ?_)
              · skip
                refine Kd.R_append_rows_step k24 (w0 := w) w.heap.size (by rfl) (.tmp 6) (.tmp 8) 22 24 (.agg #[(.int .i64 0), (.int .i64 0)]) 16 rfl Tryd.underlying22 info24 rfl (by decide) (by omega) v133 y132 l0_1 _ _ _ (fun _ => True) (fun _ => False) rfl rfl ?aO ?aR (fun _ _ h => h) (fun _ h => h.elim) ?aF ?aB ?aS ?aL ?_
                (case aR => repeat (first | exact (Kd.C_below HR0_1.out HB.out) | (with_reducible refine Kd.C_alloc ?_ _) | (with_reducible refine Kd.C_drewN ?_ _) | (with_reducible refine Kd.C_drew ?_)))
                (case aB => exact (by repeat (first | (with_reducible first | exact HB.out | apply below_alloc | apply pw_below_drewN | apply below_drew1 | refine below_set ?_ GE128.out) | exact HB.out)))
                (case aF => exact (fun _ _ => trivial))
                (case aO => exact (by (with_reducible repeat (first | apply Kd.R_alloc | apply Kd.R_drewN | apply Kd.R_drew)); exact HO134.out))
                (case aS => exact (below_size (by repeat (first | (with_reducible first | exact HB.out | apply below_alloc | apply pw_below_drewN | apply below_drew1 | refine below_set ?_ GE128.out) | exact HB.out))))
                (case aL => have := LMc3.out; omega)
                intro v136 w10 ho hb hg hat
                rw [← Ny135.out] at ho
                have n0_ := Aside0.mk (blk_grown (g := gb128) (o := .cells #[.slice A0_0 l0_0.length c0_0, .slice A0_1 l0_1.length c0_1, .int .i64 a0_2, .int .i64 a0_3, .slice A0_4 l0_4.length c0_4] 26 (0, 0)) (by (with_reducible repeat (first | refine blk_drewN ?_ _ | refine blk_drew ?_ | refine blk_alloc ?_ _)); exact BK128.out) hg (Kd.R_ne HO134.out BK128.out (by decide)))
                have n1_ := Aside0.mk (hb)
                have n2_ := Aside0.mk (ho)
                clear BK128
                clear HB
                clear HO134
                have BK128 := n0_
                have HB := n1_
                have HO137 := n2_
                clear n0_ n1_ n2_
                clear ho hb hg hat
                refine hK.out _ _ ⟨(blk_cell BK128.out 0).trans rfl, (blk_cell BK128.out 1).trans rfl, (blk_cell BK128.out 2).trans rfl, (blk_cell BK128.out 3).trans rfl, (blk_cell BK128.out 4).trans rfl⟩ (fun hHeld => ?_)
                clear hK K
                refine norm_ (a' := ?_) ?_ ?_
                rotate_left
                · show Act.put _ (some 9) _ = _
                  simp only [Act.put, List.setIfInBounds_toArray, List.set_cons_zero, List.set_cons_succ, i64_w, i32_w]
                  rfl
                refine one_ (i := 9) (N := some 12) #[true, true, true, true, true, true, true, true, true, true, false, false] rfl rfl (one_of HT_.out (by kernel_rfl)) (by decide) (fun K hK => ?_)
                refine Kd.R_lit_step k24 _ 24 ?hg (N := 12) ?hd (xs := ([(⟨a0_2, a0_3⟩ : S24)] : List (S24))) (inner := [.int .i64 a0_2, .int .i64 a0_3]) (ok := fun _ => True) (okp := fun _ => True) ?hr ?hp (fun _ hk => hk) trivial (Below.refl _ _) (Nat.le_refl _) (by simp) ?_; (case hd => rfl); (case hg => rfl); (case hr => first | (go_simp; done) | (go_simp; rfl)); (case hp => exact (Reps.c2 (show Kd.M k24 _ _ _ (⟨a0_2, a0_3⟩ : S24) [.int .i64 a0_2, .int .i64 a0_3] from (k24_mkM _ _ _ (⟨a0_2, a0_3⟩ : S24) )) (Reps.none _ _)))
                intro v139 w11 ho12 hb hg_ hnew_
                clear hg_ hnew_
                (first | rw [← Ny138.out] at ho12 | (simp only [Int.reduceToNat] at ho12; rw [← Ny138.out] at ho12))
                have n0_ := Aside0.mk (Kd.R_elder' (by (with_reducible repeat (first | apply Kd.R_alloc | apply Kd.R_drewN | apply Kd.R_drew)); exact HO137.out) (Kd.R_base ho12) hb)
                have n1_ := Aside0.mk (Kd.R_lower (Kd.R_new' ho12 (Kd.R_lt (by (with_reducible repeat (first | apply Kd.R_alloc | apply Kd.R_drewN | apply Kd.R_drew)); exact HO137.out))) (below_size (by repeat (first | (with_reducible first | exact HB.out | apply below_alloc | apply pw_below_drewN | apply below_drew1 | refine below_set ?_ GE128.out) | exact HB.out))))
                have n2_ := Aside0.mk (blk_below (g := gb128) (o := .cells #[.slice A0_0 l0_0.length c0_0, .slice A0_1 l0_1.length c0_1, .int .i64 a0_2, .int .i64 a0_3, .slice A0_4 l0_4.length c0_4] 26 (0, 0)) (by (with_reducible repeat (first | refine blk_drewN ?_ _ | refine blk_drew ?_ | refine blk_alloc ?_ _)); exact BK128.out) hb)
                have n3_ := Aside0.mk (below_step (by repeat (first | (with_reducible first | exact HB.out | apply below_alloc | apply pw_below_drewN | apply below_drew1 | refine below_set ?_ GE128.out) | exact HB.out)) hb)
                clear HO137
                clear BK128
                clear HB
                have HO137 := n0_
                have HO140 := n1_
                have BK128 := n2_
                have HB := n3_
                clear n0_ n1_ n2_ n3_
                clear hb ho12
                refine hK.out _ _ ⟨(blk_cell BK128.out 0).trans rfl, (blk_cell BK128.out 1).trans rfl, (blk_cell BK128.out 2).trans rfl, (blk_cell BK128.out 3).trans rfl, (blk_cell BK128.out 4).trans rfl⟩ (fun hHeld => ?_)
                clear hK K
                refine norm_ (a' := ?_) ?_ ?_
                rotate_left
                · show Act.put _ (some 12) _ = _
                  simp only [Act.put, List.setIfInBounds_toArray, List.set_cons_zero, List.set_cons_succ, i64_w, i32_w]
                  rfl
                exact norm_ (by simp only [putAll, Act.put, List.setIfInBounds_toArray, List.set_cons_zero, List.set_cons_succ]) (hCont (v130, v133, v136, v139) _ ⟨hHeld, (by (with_reducible repeat (first | apply Kd.R_alloc | apply Kd.R_drewN | apply Kd.R_drew)); exact Kd.R_mono HO137.out (fun _ hk => hk.2)), (by (with_reducible repeat (first | apply Kd.R_alloc | apply Kd.R_drewN | apply Kd.R_drew)); exact Kd.R_mono HO140.out (fun _ hk => hk.2)), (by (with_reducible repeat (first | refine blk_drewN ?_ _ | refine blk_drew ?_ | refine blk_alloc ?_ _)); exact BK128.out), (by repeat (first | (with_reducible first | exact HB.out | apply below_alloc | apply pw_below_drewN | apply below_drew1 | refine below_set ?_ GE128.out) | exact HB.out))⟩)
              · skip
                refine Kd.R_lit_step k24 _ 24 ?hg (N := 12) ?hd (xs := ([(⟨a0_2, a0_3⟩ : S24)] : List (S24))) (inner := [.int .i64 a0_2, .int .i64 a0_3]) (ok := fun _ => True) (okp := fun _ => True) ?hr ?hp (fun _ hk => hk) trivial (Below.refl _ _) (Nat.le_refl _) (by simp) ?_; (case hd => rfl); (case hg => rfl); (case hr => first | (go_simp; done) | (go_simp; rfl)); (case hp => exact (Reps.c2 (show Kd.M k24 _ _ _ (⟨a0_2, a0_3⟩ : S24) [.int .i64 a0_2, .int .i64 a0_3] from (k24_mkM _ _ _ (⟨a0_2, a0_3⟩ : S24) )) (Reps.none _ _)))
                intro v139 w10 ho11 hb hg_ hnew_
                clear hg_ hnew_
                (first | rw [← Ny138.out] at ho11 | (simp only [Int.reduceToNat] at ho11; rw [← Ny138.out] at ho11))
                have n0_ := Aside0.mk (Kd.R_elder' (by (with_reducible repeat (first | apply Kd.R_alloc | apply Kd.R_drewN | apply Kd.R_drew)); exact HO134.out) (Kd.R_base ho11) hb)
                have n1_ := Aside0.mk (Kd.R_lower (Kd.R_new' ho11 (Kd.R_lt (by (with_reducible repeat (first | apply Kd.R_alloc | apply Kd.R_drewN | apply Kd.R_drew)); exact HO134.out))) (below_size (by repeat (first | (with_reducible first | exact HB.out | apply below_alloc | apply pw_below_drewN | apply below_drew1 | refine below_set ?_ GE128.out) | exact HB.out))))
                have n2_ := Aside0.mk (blk_below (g := gb128) (o := .cells #[.slice A0_0 l0_0.length c0_0, .slice A0_1 l0_1.length c0_1, .int .i64 a0_2, .int .i64 a0_3, .slice A0_4 l0_4.length c0_4] 26 (0, 0)) (by (with_reducible repeat (first | refine blk_drewN ?_ _ | refine blk_drew ?_ | refine blk_alloc ?_ _)); exact BK128.out) hb)
                have n3_ := Aside0.mk (below_step (by repeat (first | (with_reducible first | exact HB.out | apply below_alloc | apply pw_below_drewN | apply below_drew1 | refine below_set ?_ GE128.out) | exact HB.out)) hb)
                clear HO134
                clear BK128
                clear HB
                have HO134 := n0_
                have HO140 := n1_
                have BK128 := n2_
                have HB := n3_
                clear n0_ n1_ n2_ n3_
                clear hb ho11
                refine hK.out _ _ ⟨(blk_cell BK128.out 0).trans rfl, (blk_cell BK128.out 1).trans rfl, (blk_cell BK128.out 2).trans rfl, (blk_cell BK128.out 3).trans rfl, (blk_cell BK128.out 4).trans rfl⟩ (fun hHeld => ?_)
                clear hK K
                refine norm_ (a' := ?_) ?_ ?_
                rotate_left
                · show Act.put _ (some 12) _ = _
                  simp only [Act.put, List.setIfInBounds_toArray, List.set_cons_zero, List.set_cons_succ, i64_w, i32_w]
                  rfl
                refine one_ (i := 6) (N := some 9) #[true, true, true, true, true, true, true, true, true, true, false, false] rfl rfl (one_of HT_.out (by kernel_rfl)) (by decide) (fun K hK => ?_)
                refine Kd.R_append_rows_step k24 (w0 := w) w.heap.size (by rfl) (.tmp 6) (.tmp 8) 22 24 (.agg #[(.int .i64 0), (.int .i64 0)]) 16 rfl Tryd.underlying22 info24 rfl (by decide) (by omega) v133 y132 l0_1 _ _ _ (fun k_ => some k_ ≠ (v139 : Value).ownBlock) (fun _ => False) rfl rfl ?aO ?aR (fun _ _ h => h) (fun _ h => h.elim) ?aF ?aB ?aS ?aL ?_
                (case aR => repeat (first | exact (Kd.C_below HR0_1.out HB.out) | (with_reducible refine Kd.C_alloc ?_ _) | (with_reducible refine Kd.C_drewN ?_ _) | (with_reducible refine Kd.C_drew ?_)))
                (case aB => exact (by repeat (first | (with_reducible first | exact HB.out | apply below_alloc | apply pw_below_drewN | apply below_drew1 | refine below_set ?_ GE128.out) | exact HB.out)))
                (case aF => exact (fun k_ hk => Kd.fresh' (Kd.R_lt (by (with_reducible repeat (first | apply Kd.R_alloc | apply Kd.R_drewN | apply Kd.R_drew)); exact HO140.out)) k_ hk))
                (case aO => exact (by (with_reducible repeat (first | apply Kd.R_alloc | apply Kd.R_drewN | apply Kd.R_drew)); exact Kd.R_mono HO134.out (fun _ hk => hk.2)))
                (case aS => exact (below_size (by repeat (first | (with_reducible first | exact HB.out | apply below_alloc | apply pw_below_drewN | apply below_drew1 | refine below_set ?_ GE128.out) | exact HB.out))))
                (case aL => have := LMc3.out; omega)
                intro v136 w12 ho hb hg hat
                rw [← Ny135.out] at ho
                have n0_ := Aside0.mk (blk_grown (g := gb128) (o := .cells #[.slice A0_0 l0_0.length c0_0, .slice A0_1 l0_1.length c0_1, .int .i64 a0_2, .int .i64 a0_3, .slice A0_4 l0_4.length c0_4] 26 (0, 0)) (by (with_reducible repeat (first | refine blk_drewN ?_ _ | refine blk_drew ?_ | refine blk_alloc ?_ _)); exact BK128.out) hg (Kd.R_ne HO134.out BK128.out (by decide)))
                have n1_ := Aside0.mk (Kd.R_after (ok := (fun _ => True)) (by (with_reducible repeat (first | apply Kd.R_alloc | apply Kd.R_drewN | apply Kd.R_drew)); exact HO140.out) hg hat)
                have n2_ := Aside0.mk (hb)
                have n3_ := Aside0.mk (ho)
                clear BK128
                clear HO140
                clear HB
                clear HO134
                have BK128 := n0_
                have HO140 := n1_
                have HB := n2_
                have HO137 := n3_
                clear n0_ n1_ n2_ n3_
                clear ho hb hg hat
                refine hK.out _ _ ⟨(blk_cell BK128.out 0).trans rfl, (blk_cell BK128.out 1).trans rfl, (blk_cell BK128.out 2).trans rfl, (blk_cell BK128.out 3).trans rfl, (blk_cell BK128.out 4).trans rfl⟩ (fun hHeld => ?_)
                clear hK K
                refine norm_ (a' := ?_) ?_ ?_
                rotate_left
                · show Act.put _ (some 9) _ = _
                  simp only [Act.put, List.setIfInBounds_toArray, List.set_cons_zero, List.set_cons_succ, i64_w, i32_w]
                  rfl
                exact norm_ (by simp only [putAll, Act.put, List.setIfInBounds_toArray, List.set_cons_zero, List.set_cons_succ]) (hCont (v130, v133, v136, v139) _ ⟨hHeld, (by (with_reducible repeat (first | apply Kd.R_alloc | apply Kd.R_drewN | apply Kd.R_drew)); exact HO137.out), (by (with_reducible repeat (first | apply Kd.R_alloc | apply Kd.R_drewN | apply Kd.R_drew)); exact Kd.R_mono HO140.out (fun _ hk => hk.2)), (by (with_reducible repeat (first | refine blk_drewN ?_ _ | refine blk_drew ?_ | refine blk_alloc ?_ _)); exact BK128.out), (by repeat (first | (with_reducible first | exact HB.out | apply below_alloc | apply pw_below_drewN | apply below_drew1 | refine below_set ?_ GE128.out) | exact HB.out))⟩)
            · skip
              refine Kd.R_lit_step k24 _ 24 ?hg (N := 12) ?hd (xs := ([(⟨a0_2, a0_3⟩ : S24)] : List (S24))) (inner := [.int .i64 a0_2, .int .i64 a0_3]) (ok := fun _ => True) (okp := fun _ => True) ?hr ?hp (fun _ hk => hk) trivial (Below.refl _ _) (Nat.le_refl _) (by simp) ?_; (case hd => rfl); (case hg => rfl); (case hr => first | (go_simp; done) | (go_simp; rfl)); (case hp => exact (Reps.c2 (show Kd.M k24 _ _ _ (⟨a0_2, a0_3⟩ : S24) [.int .i64 a0_2, .int .i64 a0_3] from (k24_mkM _ _ _ (⟨a0_2, a0_3⟩ : S24) )) (Reps.none _ _)))
              intro v139 w9 ho10 hb hg_ hnew_
              clear hg_ hnew_
              (first | rw [← Ny138.out] at ho10 | (simp only [Int.reduceToNat] at ho10; rw [← Ny138.out] at ho10))
              have n0_ := Aside0.mk (Kd.R_elder' (by (with_reducible repeat (first | apply Kd.R_alloc | apply Kd.R_drewN | apply Kd.R_drew)); exact HO131.out) (Kd.R_base ho10) hb)
              have n1_ := Aside0.mk (Kd.R_lower (Kd.R_new' ho10 (Kd.R_lt (by (with_reducible repeat (first | apply Kd.R_alloc | apply Kd.R_drewN | apply Kd.R_drew)); exact HO131.out))) (below_size (by repeat (first | (with_reducible first | exact HB.out | apply below_alloc | apply pw_below_drewN | apply below_drew1 | refine below_set ?_ GE128.out) | exact HB.out))))
              have n2_ := Aside0.mk (blk_below (g := gb128) (o := .cells #[.slice A0_0 l0_0.length c0_0, .slice A0_1 l0_1.length c0_1, .int .i64 a0_2, .int .i64 a0_3, .slice A0_4 l0_4.length c0_4] 26 (0, 0)) (by (with_reducible repeat (first | refine blk_drewN ?_ _ | refine blk_drew ?_ | refine blk_alloc ?_ _)); exact BK128.out) hb)
              have n3_ := Aside0.mk (below_step (by repeat (first | (with_reducible first | exact HB.out | apply below_alloc | apply pw_below_drewN | apply below_drew1 | refine below_set ?_ GE128.out) | exact HB.out)) hb)
              clear HO131
              clear BK128
              clear HB
              have HO131 := n0_
              have HO140 := n1_
              have BK128 := n2_
              have HB := n3_
              clear n0_ n1_ n2_ n3_
              clear hb ho10
              refine hK.out _ _ ⟨(blk_cell BK128.out 0).trans rfl, (blk_cell BK128.out 1).trans rfl, (blk_cell BK128.out 2).trans rfl, (blk_cell BK128.out 3).trans rfl, (blk_cell BK128.out 4).trans rfl⟩ (fun hHeld => ?_)
              clear hK K
              refine norm_ (a' := ?_) ?_ ?_
              rotate_left
              · show Act.put _ (some 12) _ = _
                simp only [Act.put, List.setIfInBounds_toArray, List.set_cons_zero, List.set_cons_succ, i64_w, i32_w]
                rfl
              refine one_ (i := 3) (N := some 6) #[true, true, true, true, true, true, false, true, true, true, false, false] rfl rfl (one_of HT_.out (by kernel_rfl)) (by decide) (fun K hK => ?_)
              refine Kd.R_append_rows_step k24 (w0 := w) w.heap.size (by rfl) (.tmp 3) (.tmp 5) 22 24 (.agg #[(.int .i64 0), (.int .i64 0)]) 16 rfl Tryd.underlying22 info24 rfl (by decide) (by omega) v130 y129 l0_0 _ _ _ (fun k_ => some k_ ≠ (v139 : Value).ownBlock) (fun _ => False) rfl rfl ?aO ?aR (fun _ _ h => h) (fun _ h => h.elim) ?aF ?aB ?aS ?aL ?_
              (case aR => repeat (first | exact (Kd.C_below HR0_0.out HB.out) | (with_reducible refine Kd.C_alloc ?_ _) | (with_reducible refine Kd.C_drewN ?_ _) | (with_reducible refine Kd.C_drew ?_)))
              (case aB => exact (by repeat (first | (with_reducible first | exact HB.out | apply below_alloc | apply pw_below_drewN | apply below_drew1 | refine below_set ?_ GE128.out) | exact HB.out)))
              (case aF => exact (fun k_ hk => Kd.fresh' (Kd.R_lt (by (with_reducible repeat (first | apply Kd.R_alloc | apply Kd.R_drewN | apply Kd.R_drew)); exact HO140.out)) k_ hk))
              (case aO => exact (by (with_reducible repeat (first | apply Kd.R_alloc | apply Kd.R_drewN | apply Kd.R_drew)); exact Kd.R_mono HO131.out (fun _ hk => hk.2)))
              (case aS => exact (below_size (by repeat (first | (with_reducible first | exact HB.out | apply below_alloc | apply pw_below_drewN | apply below_drew1 | refine below_set ?_ GE128.out) | exact HB.out))))
              (case aL => have := LMc2.out; omega)
              intro v133 w11 ho hb hg hat
              rw [← Ny132.out] at ho
              have n0_ := Aside0.mk (blk_grown (g := gb128) (o := .cells #[.slice A0_0 l0_0.length c0_0, .slice A0_1 l0_1.length c0_1, .int .i64 a0_2, .int .i64 a0_3, .slice A0_4 l0_4.length c0_4] 26 (0, 0)) (by (with_reducible repeat (first | refine blk_drewN ?_ _ | refine blk_drew ?_ | refine blk_alloc ?_ _)); exact BK128.out) hg (Kd.R_ne HO131.out BK128.out (by decide)))
              have n1_ := Aside0.mk (Kd.R_after (ok := (fun _ => True)) (by (with_reducible repeat (first | apply Kd.R_alloc | apply Kd.R_drewN | apply Kd.R_drew)); exact HO140.out) hg hat)
              have n2_ := Aside0.mk (hb)
              have n3_ := Aside0.mk (ho)
              clear BK128
              clear HO140
              clear HB
              clear HO131
              have BK128 := n0_
              have HO140 := n1_
              have HB := n2_
              have HO134 := n3_
              clear n0_ n1_ n2_ n3_
              clear ho hb hg hat
              refine hK.out _ _ ⟨(blk_cell BK128.out 0).trans rfl, (blk_cell BK128.out 1).trans rfl, (blk_cell BK128.out 2).trans rfl, (blk_cell BK128.out 3).trans rfl, (blk_cell BK128.out 4).trans rfl⟩ (fun hHeld => ?_)
              clear hK K
              refine norm_ (a' := ?_) ?_ ?_
              rotate_left
              · show Act.put _ (some 6) _ = _
                simp only [Act.put, List.setIfInBounds_toArray, List.set_cons_zero, List.set_cons_succ, i64_w, i32_w]
                rfl
              refine one_ (i := 6) (N := some 9) #[true, true, true, true, true, true, true, true, true, true, false, false] rfl rfl (one_of HT_.out (by kernel_rfl)) (by decide) (fun K hK => ?_)
              refine Kd.R_append_rows_step k24 (w0 := w) w.heap.size (by rfl) (.tmp 6) (.tmp 8) 22 24 (.agg #[(.int .i64 0), (.int .i64 0)]) 16 rfl Tryd.underlying22 info24 rfl (by decide) (by omega) v133 y132 l0_1 _ _ _ (fun k_ => some k_ ≠ (v139 : Value).ownBlock) (fun _ => False) rfl rfl ?aO ?aR (fun _ _ h => h) (fun _ h => h.elim) ?aF ?aB ?aS ?aL ?_
              (case aR => repeat (first | exact (Kd.C_below HR0_1.out HB.out) | (with_reducible refine Kd.C_alloc ?_ _) | (with_reducible refine Kd.C_drewN ?_ _) | (with_reducible refine Kd.C_drew ?_)))
              (case aB => exact (by repeat (first | (with_reducible first | exact HB.out | apply below_alloc | apply pw_below_drewN | apply below_drew1 | refine below_set ?_ GE128.out) | exact HB.out)))
              (case aF => exact (fun k_ hk => Kd.fresh' (Kd.R_lt (by (with_reducible repeat (first | apply Kd.R_alloc | apply Kd.R_drewN | apply Kd.R_drew)); exact HO140.out)) k_ hk))
              (case aO => exact (by (with_reducible repeat (first | apply Kd.R_alloc | apply Kd.R_drewN | apply Kd.R_drew)); exact HO134.out))
              (case aS => exact (below_size (by repeat (first | (with_reducible first | exact HB.out | apply below_alloc | apply pw_below_drewN | apply below_drew1 | refine below_set ?_ GE128.out) | exact HB.out))))
              (case aL => have := LMc3.out; omega)
              intro v136 w12 ho hb hg hat
              rw [← Ny135.out] at ho
              have n0_ := Aside0.mk (blk_grown (g := gb128) (o := .cells #[.slice A0_0 l0_0.length c0_0, .slice A0_1 l0_1.length c0_1, .int .i64 a0_2, .int .i64 a0_3, .slice A0_4 l0_4.length c0_4] 26 (0, 0)) (by (with_reducible repeat (first | refine blk_drewN ?_ _ | refine blk_drew ?_ | refine blk_alloc ?_ _)); exact BK128.out) hg (Kd.R_ne HO134.out BK128.out (by decide)))
              have n1_ := Aside0.mk (Kd.R_after (ok := (fun _ => True)) (by (with_reducible repeat (first | apply Kd.R_alloc | apply Kd.R_drewN | apply Kd.R_drew)); exact HO140.out) hg hat)
              have n2_ := Aside0.mk (hb)
              have n3_ := Aside0.mk (ho)
              clear BK128
              clear HO140
              clear HB
              clear HO134
              have BK128 := n0_
              have HO140 := n1_
              have HB := n2_
              have HO137 := n3_
              clear n0_ n1_ n2_ n3_
              clear ho hb hg hat
              refine hK.out _ _ ⟨(blk_cell BK128.out 0).trans rfl, (blk_cell BK128.out 1).trans rfl, (blk_cell BK128.out 2).trans rfl, (blk_cell BK128.out 3).trans rfl, (blk_cell BK128.out 4).trans rfl⟩ (fun hHeld => ?_)
              clear hK K
              refine norm_ (a' := ?_) ?_ ?_
              rotate_left
              · show Act.put _ (some 9) _ = _
                simp only [Act.put, List.setIfInBounds_toArray, List.set_cons_zero, List.set_cons_succ, i64_w, i32_w]
                rfl
              exact norm_ (by simp only [putAll, Act.put, List.setIfInBounds_toArray, List.set_cons_zero, List.set_cons_succ]) (hCont (v130, v133, v136, v139) _ ⟨hHeld, (by (with_reducible repeat (first | apply Kd.R_alloc | apply Kd.R_drewN | apply Kd.R_drew)); exact HO137.out), (by (with_reducible repeat (first | apply Kd.R_alloc | apply Kd.R_drewN | apply Kd.R_drew)); exact Kd.R_mono HO140.out (fun _ hk => hk.2)), (by (with_reducible repeat (first | refine blk_drewN ?_ _ | refine blk_drew ?_ | refine blk_alloc ?_ _)); exact BK128.out), (by repeat (first | (with_reducible first | exact HB.out | apply below_alloc | apply pw_below_drewN | apply below_drew1 | refine below_set ?_ GE128.out) | exact HB.out))⟩)
          · skip
            refine Kd.R_lit_step k24 _ 24 ?hg (N := 12) ?hd (xs := ([(⟨a0_2, a0_3⟩ : S24)] : List (S24))) (inner := [.int .i64 a0_2, .int .i64 a0_3]) (ok := fun _ => True) (okp := fun _ => True) ?hr ?hp (fun _ hk => hk) trivial (Below.refl _ _) (Nat.le_refl _) (by simp) ?_; (case hd => rfl); (case hg => rfl); (case hr => first | (go_simp; done) | (go_simp; rfl)); (case hp => exact (Reps.c2 (show Kd.M k24 _ _ _ (⟨a0_2, a0_3⟩ : S24) [.int .i64 a0_2, .int .i64 a0_3] from (k24_mkM _ _ _ (⟨a0_2, a0_3⟩ : S24) )) (Reps.none _ _)))
            intro v139 w7 ho8 hb hg_ hnew_
            clear hg_ hnew_
            (first | rw [← Ny138.out] at ho8 | (simp only [Int.reduceToNat] at ho8; rw [← Ny138.out] at ho8))
            have n0_ := Aside0.mk (Kd.R_lower ho8 (below_size (by repeat (first | (with_reducible first | exact HB.out | apply below_alloc | apply pw_below_drewN | apply below_drew1 | refine below_set ?_ GE128.out) | exact HB.out))))
            have n1_ := Aside0.mk (blk_below (g := gb128) (o := .cells #[.slice A0_0 l0_0.length c0_0, .slice A0_1 l0_1.length c0_1, .int .i64 a0_2, .int .i64 a0_3, .slice A0_4 l0_4.length c0_4] 26 (0, 0)) (by (with_reducible repeat (first | refine blk_drewN ?_ _ | refine blk_drew ?_ | refine blk_alloc ?_ _)); exact BK128.out) hb)
            have n2_ := Aside0.mk (below_step (by repeat (first | (with_reducible first | exact HB.out | apply below_alloc | apply pw_below_drewN | apply below_drew1 | refine below_set ?_ GE128.out) | exact HB.out)) hb)
            clear BK128
            clear HB
            have HO140 := n0_
            have BK128 := n1_
            have HB := n2_
            clear n0_ n1_ n2_
            clear hb ho8
            refine hK.out _ _ ⟨(blk_cell BK128.out 0).trans rfl, (blk_cell BK128.out 1).trans rfl, (blk_cell BK128.out 2).trans rfl, (blk_cell BK128.out 3).trans rfl, (blk_cell BK128.out 4).trans rfl⟩ (fun hHeld => ?_)
            clear hK K
            refine norm_ (a' := ?_) ?_ ?_
            rotate_left
            · show Act.put _ (some 12) _ = _
              simp only [Act.put, List.setIfInBounds_toArray, List.set_cons_zero, List.set_cons_succ, i64_w, i32_w]
              rfl
            refine one_ (i := 0) (N := some 3) #[true, true, true, false, true, true, false, true, true, true, false, false] rfl rfl (one_of HT_.out (by kernel_rfl)) (by decide) (fun K hK => ?_)
            refine Kd.R_lit_step k24 _ 24 ?hg (N := 3) ?hd (xs := ([] : List (S24))) (inner := []) (ok := fun _ => True) (okp := fun _ => True) ?hr ?hp (fun _ hk => hk) trivial (Below.refl _ _) (Nat.le_refl _) (by simp) ?_; (case hd => rfl); (case hg => rfl); (case hr => first | (go_simp; done) | (go_simp; rfl)); (case hp => exact (Reps.none _ _))
            intro v130 w9 ho10 hb hg_ hnew_
            clear hg_ hnew_
            (first | rw [← Ny129.out] at ho10 | (simp only [Int.reduceToNat] at ho10; rw [← Ny129.out] at ho10))
            have n0_ := Aside0.mk (Kd.R_elder' (by (with_reducible repeat (first | apply Kd.R_alloc | apply Kd.R_drewN | apply Kd.R_drew)); exact HO140.out) (Kd.R_base ho10) hb)
            have n1_ := Aside0.mk (Kd.R_lower (Kd.R_new' ho10 (Kd.R_lt (by (with_reducible repeat (first | apply Kd.R_alloc | apply Kd.R_drewN | apply Kd.R_drew)); exact HO140.out))) (below_size (by repeat (first | (with_reducible first | exact HB.out | apply below_alloc | apply pw_below_drewN | apply below_drew1 | refine below_set ?_ GE128.out) | exact HB.out))))
            have n2_ := Aside0.mk (blk_below (g := gb128) (o := .cells #[.slice A0_0 l0_0.length c0_0, .slice A0_1 l0_1.length c0_1, .int .i64 a0_2, .int .i64 a0_3, .slice A0_4 l0_4.length c0_4] 26 (0, 0)) (by (with_reducible repeat (first | refine blk_drewN ?_ _ | refine blk_drew ?_ | refine blk_alloc ?_ _)); exact BK128.out) hb)
            have n3_ := Aside0.mk (below_step (by repeat (first | (with_reducible first | exact HB.out | apply below_alloc | apply pw_below_drewN | apply below_drew1 | refine below_set ?_ GE128.out) | exact HB.out)) hb)
            clear HO140
            clear BK128
            clear HB
            have HO140 := n0_
            have HO131 := n1_
            have BK128 := n2_
            have HB := n3_
            clear n0_ n1_ n2_ n3_
            clear hb ho10
            refine hK.out _ _ ⟨(blk_cell BK128.out 0).trans rfl, (blk_cell BK128.out 1).trans rfl, (blk_cell BK128.out 2).trans rfl, (blk_cell BK128.out 3).trans rfl, (blk_cell BK128.out 4).trans rfl⟩ (fun hHeld => ?_)
            clear hK K
            refine norm_ (a' := ?_) ?_ ?_
            rotate_left
            · show Act.put _ (some 3) _ = _
              simp only [Act.put, List.setIfInBounds_toArray, List.set_cons_zero, List.set_cons_succ, i64_w, i32_w]
              rfl
            refine one_ (i := 3) (N := some 6) #[true, true, true, true, true, true, false, true, true, true, false, false] rfl rfl (one_of HT_.out (by kernel_rfl)) (by decide) (fun K hK => ?_)
            refine Kd.R_append_rows_step k24 (w0 := w) w.heap.size (by rfl) (.tmp 3) (.tmp 5) 22 24 (.agg #[(.int .i64 0), (.int .i64 0)]) 16 rfl Tryd.underlying22 info24 rfl (by decide) (by omega) v130 y129 l0_0 _ _ _ (fun k_ => some k_ ≠ (v139 : Value).ownBlock) (fun _ => False) rfl rfl ?aO ?aR (fun _ _ h => h) (fun _ h => h.elim) ?aF ?aB ?aS ?aL ?_
            (case aR => repeat (first | exact (Kd.C_below HR0_0.out HB.out) | (with_reducible refine Kd.C_alloc ?_ _) | (with_reducible refine Kd.C_drewN ?_ _) | (with_reducible refine Kd.C_drew ?_)))
            (case aB => exact (by repeat (first | (with_reducible first | exact HB.out | apply below_alloc | apply pw_below_drewN | apply below_drew1 | refine below_set ?_ GE128.out) | exact HB.out)))
            (case aF => exact (fun k_ hk => Kd.fresh' (Kd.R_lt (by (with_reducible repeat (first | apply Kd.R_alloc | apply Kd.R_drewN | apply Kd.R_drew)); exact HO140.out)) k_ hk))
            (case aO => exact (by (with_reducible repeat (first | apply Kd.R_alloc | apply Kd.R_drewN | apply Kd.R_drew)); exact Kd.R_mono HO131.out (fun _ hk => hk.2)))
            (case aS => exact (below_size (by repeat (first | (with_reducible first | exact HB.out | apply below_alloc | apply pw_below_drewN | apply below_drew1 | refine below_set ?_ GE128.out) | exact HB.out))))
            (case aL => have := LMc2.out; omega)
            intro v133 w11 ho hb hg hat
            rw [← Ny132.out] at ho
            have n0_ := Aside0.mk (blk_grown (g := gb128) (o := .cells #[.slice A0_0 l0_0.length c0_0, .slice A0_1 l0_1.length c0_1, .int .i64 a0_2, .int .i64 a0_3, .slice A0_4 l0_4.length c0_4] 26 (0, 0)) (by (with_reducible repeat (first | refine blk_drewN ?_ _ | refine blk_drew ?_ | refine blk_alloc ?_ _)); exact BK128.out) hg (Kd.R_ne HO131.out BK128.out (by decide)))
            have n1_ := Aside0.mk (Kd.R_after (ok := (fun _ => True)) (by (with_reducible repeat (first | apply Kd.R_alloc | apply Kd.R_drewN | apply Kd.R_drew)); exact HO140.out) hg hat)
            have n2_ := Aside0.mk (hb)
            have n3_ := Aside0.mk (ho)
            clear BK128
            clear HO140
            clear HB
            clear HO131
            have BK128 := n0_
            have HO140 := n1_
            have HB := n2_
            have HO134 := n3_
            clear n0_ n1_ n2_ n3_
            clear ho hb hg hat
            refine hK.out _ _ ⟨(blk_cell BK128.out 0).trans rfl, (blk_cell BK128.out 1).trans rfl, (blk_cell BK128.out 2).trans rfl, (blk_cell BK128.out 3).trans rfl, (blk_cell BK128.out 4).trans rfl⟩ (fun hHeld => ?_)
            clear hK K
            refine norm_ (a' := ?_) ?_ ?_
            rotate_left
            · show Act.put _ (some 6) _ = _
              simp only [Act.put, List.setIfInBounds_toArray, List.set_cons_zero, List.set_cons_succ, i64_w, i32_w]
              rfl
            refine one_ (i := 6) (N := some 9) #[true, true, true, true, true, true, true, true, true, true, false, false] rfl rfl (one_of HT_.out (by kernel_rfl)) (by decide) (fun K hK => ?_)
            refine Kd.R_append_rows_step k24 (w0 := w) w.heap.size (by rfl) (.tmp 6) (.tmp 8) 22 24 (.agg #[(.int .i64 0), (.int .i64 0)]) 16 rfl Tryd.underlying22 info24 rfl (by decide) (by omega) v133 y132 l0_1 _ _ _ (fun k_ => some k_ ≠ (v139 : Value).ownBlock) (fun _ => False) rfl rfl ?aO ?aR (fun _ _ h => h) (fun _ h => h.elim) ?aF ?aB ?aS ?aL ?_
            (case aR => repeat (first | exact (Kd.C_below HR0_1.out HB.out) | (with_reducible refine Kd.C_alloc ?_ _) | (with_reducible refine Kd.C_drewN ?_ _) | (with_reducible refine Kd.C_drew ?_)))
            (case aB => exact (by repeat (first | (with_reducible first | exact HB.out | apply below_alloc | apply pw_below_drewN | apply below_drew1 | refine below_set ?_ GE128.out) | exact HB.out)))
            (case aF => exact (fun k_ hk => Kd.fresh' (Kd.R_lt (by (with_reducible repeat (first | apply Kd.R_alloc | apply Kd.R_drewN | apply Kd.R_drew)); exact HO140.out)) k_ hk))
            (case aO => exact (by (with_reducible repeat (first | apply Kd.R_alloc | apply Kd.R_drewN | apply Kd.R_drew)); exact HO134.out))
            (case aS => exact (below_size (by repeat (first | (with_reducible first | exact HB.out | apply below_alloc | apply pw_below_drewN | apply below_drew1 | refine below_set ?_ GE128.out) | exact HB.out))))
            (case aL => have := LMc3.out; omega)
            intro v136 w12 ho hb hg hat
            rw [← Ny135.out] at ho
            have n0_ := Aside0.mk (blk_grown (g := gb128) (o := .cells #[.slice A0_0 l0_0.length c0_0, .slice A0_1 l0_1.length c0_1, .int .i64 a0_2, .int .i64 a0_3, .slice A0_4 l0_4.length c0_4] 26 (0, 0)) (by (with_reducible repeat (first | refine blk_drewN ?_ _ | refine blk_drew ?_ | refine blk_alloc ?_ _)); exact BK128.out) hg (Kd.R_ne HO134.out BK128.out (by decide)))
            have n1_ := Aside0.mk (Kd.R_after (ok := (fun _ => True)) (by (with_reducible repeat (first | apply Kd.R_alloc | apply Kd.R_drewN | apply Kd.R_drew)); exact HO140.out) hg hat)
            have n2_ := Aside0.mk (hb)
            have n3_ := Aside0.mk (ho)
            clear BK128
            clear HO140
            clear HB
            clear HO134
            have BK128 := n0_
            have HO140 := n1_
            have HB := n2_
            have HO137 := n3_
            clear n0_ n1_ n2_ n3_
            clear ho hb hg hat
            refine hK.out _ _ ⟨(blk_cell BK128.out 0).trans rfl, (blk_cell BK128.out 1).trans rfl, (blk_cell BK128.out 2).trans rfl, (blk_cell BK128.out 3).trans rfl, (blk_cell BK128.out 4).trans rfl⟩ (fun hHeld => ?_)
            clear hK K
            refine norm_ (a' := ?_) ?_ ?_
            rotate_left
            · show Act.put _ (some 9) _ = _
              simp only [Act.put, List.setIfInBounds_toArray, List.set_cons_zero, List.set_cons_succ, i64_w, i32_w]
              rfl
            exact norm_ (by simp only [putAll, Act.put, List.setIfInBounds_toArray, List.set_cons_zero, List.set_cons_succ]) (hCont (v130, v133, v136, v139) _ ⟨hHeld, (by (with_reducible repeat (first | apply Kd.R_alloc | apply Kd.R_drewN | apply Kd.R_drew)); exact HO137.out), (by (with_reducible repeat (first | apply Kd.R_alloc | apply Kd.R_drewN | apply Kd.R_drew)); exact Kd.R_mono HO140.out (fun _ hk => hk.2)), (by (with_reducible repeat (first | refine blk_drewN ?_ _ | refine blk_drew ?_ | refine blk_alloc ?_ _)); exact BK128.out), (by repeat (first | (with_reducible first | exact HB.out | apply below_alloc | apply pw_below_drewN | apply below_drew1 | refine below_set ?_ GE128.out) | exact HB.out))⟩)
        rintro ⟨v130, v133, v136, v139⟩ w13 ⟨hS_, h0_, h1_, h2_, h3_⟩
        have n0_ : Aside0 (Kd.R k24 24 w13 w.heap.size (fun k_ => some k_ ≠ (v139 : Value).ownBlock) v136 y135) := ⟨h0_⟩
        have n1_ : Aside0 (Kd.R k24 24 w13 w.heap.size (fun k_ => some k_ ≠ (v136 : Value).ownBlock) v139 y138) := ⟨h1_⟩
        have n2_ : Aside0 (w13.heap[gb128]? = some (.cells #[.slice A0_0 l0_0.length c0_0, .slice A0_1 l0_1.length c0_1, .int .i64 a0_2, .int .i64 a0_3, .slice A0_4 l0_4.length c0_4] 26 (0, 0))) := ⟨h2_⟩
        have n3_ : Aside0 (Below w.heap.size w w13) := ⟨h3_⟩
        clear BK128
        clear HB
        clear h0_ h1_ h2_ h3_
        have HO137 := n0_
        have HO140 := n1_
        have BK128 := n2_
        have HB := n3_
        clear n0_ n1_ n2_ n3_
        have hHeld : w13.cell? ⟨gb128, 0, none⟩ = some (.slice A0_0 l0_0.length c0_0) ∧ w13.cell? ⟨gb128, 1, none⟩ = some (.slice A0_1 l0_1.length c0_1) ∧ w13.cell? ⟨gb128, 2, none⟩ = some (.int .i64 a0_2) ∧ w13.cell? ⟨gb128, 3, none⟩ = some (.int .i64 a0_3) ∧ w13.cell? ⟨gb128, 4, none⟩ = some (.slice A0_4 l0_4.length c0_4) := hS_
        obtain ⟨Ao15, co15, eo15⟩ := Kd.R_slice HO140.out
        (first | subst eo15 | (injection eo15 with f1_ f2_ f3_; have f4_ := f1_.symm; have f5_ := f3_.symm; clear f1_ f2_ f3_; subst f4_; subst f5_))
        refine norm_ (a' := ?_) ?_ ?_
        rotate_left
        · simp only [putAll, Act.put, List.setIfInBounds_toArray, List.set_cons_zero, List.set_cons_succ]
          rfl
        refine one_ (i := 10) (N := some 13) #[true, true, true, true, true, true, true, true, true, true, true, false] rfl rfl (one_of HT_.out (by kernel_rfl)) (by decide) (fun K hK => ?_)
        refine Kd.R_append_rows_step k24 (w0 := w) w.heap.size (by rfl) (.tmp 9) (.tmp 12) 22 24 (.agg #[(.int .i64 0), (.int .i64 0)]) 16 rfl Tryd.underlying22 info24 rfl (by decide) (by omega) v136 y135 y138 _ _ _ (fun k_ => some k_ ≠ (.slice Ao15 y138.length co15 : Value).ownBlock) (fun _ => False) rfl rfl ?aO ?aR (fun _ _ h => h) (fun _ h => h.elim) ?aF ?aB ?aS ?aL ?_
        (case aR => repeat (first | exact (Kd.R_reads' HO140.out).2.2 | (with_reducible refine Kd.C_alloc ?_ _) | (with_reducible refine Kd.C_drewN ?_ _) | (with_reducible refine Kd.C_drew ?_)))
        (case aB => exact (by repeat (first | (with_reducible first | exact HB.out | apply below_alloc | apply pw_below_drewN | apply below_drew1 | refine below_set ?_ GE128.out) | exact HB.out)))
        (case aF => exact (fun k_ hk => Kd.fresh' (Kd.R_lt (by (with_reducible repeat (first | apply Kd.R_alloc | apply Kd.R_drewN | apply Kd.R_drew)); exact HO140.out)) k_ hk))
        (case aO => exact (by (with_reducible repeat (first | apply Kd.R_alloc | apply Kd.R_drewN | apply Kd.R_drew)); exact HO137.out))
        (case aS => exact (below_size (by repeat (first | (with_reducible first | exact HB.out | apply below_alloc | apply pw_below_drewN | apply below_drew1 | refine below_set ?_ GE128.out) | exact HB.out))))
        (case aL => have := LMc4.out; omega)
        intro v142 w14 ho hb hg hat
        rw [← Ny141.out] at ho
        have n0_ := Aside0.mk (blk_grown (g := gb128) (o := .cells #[.slice A0_0 l0_0.length c0_0, .slice A0_1 l0_1.length c0_1, .int .i64 a0_2, .int .i64 a0_3, .slice A0_4 l0_4.length c0_4] 26 (0, 0)) (by (with_reducible repeat (first | refine blk_drewN ?_ _ | refine blk_drew ?_ | refine blk_alloc ?_ _)); exact BK128.out) hg (Kd.R_ne HO137.out BK128.out (by decide)))
        have n1_ := Aside0.mk (Kd.R_after (ok := (fun _ => True)) (by (with_reducible repeat (first | apply Kd.R_alloc | apply Kd.R_drewN | apply Kd.R_drew)); exact Kd.R_mono HO140.out (fun _ hk => ⟨trivial, hk⟩)) hg hat)
        have n2_ := Aside0.mk (hb)
        have n3_ := Aside0.mk (ho)
        clear BK128
        clear HO140
        clear HB
        clear HO137
        have BK128 := n0_
        have HO140 := n1_
        have HB := n2_
        have HO143 := n3_
        clear n0_ n1_ n2_ n3_
        clear ho hb hg hat
        refine hK.out _ _ ⟨(blk_cell BK128.out 0).trans rfl, (blk_cell BK128.out 1).trans rfl, (blk_cell BK128.out 2).trans rfl, (blk_cell BK128.out 3).trans rfl, (blk_cell BK128.out 4).trans rfl⟩ (fun hHeld => ?_)
        clear hK K
        refine norm_ (a' := ?_) ?_ ?_
        rotate_left
        · show Act.put _ (some 13) _ = _
          simp only [Act.put, List.setIfInBounds_toArray, List.set_cons_zero, List.set_cons_succ, i64_w, i32_w]
          rfl
        refine pure_ (i := 11) (N := some 2) (v := ?_) (a' := ?_) #[true, true, true, true, true, true, true, true, true, true, true, true] rfl rfl (any_of HT_.out (by kernel_rfl)) (fun _ _ _ h => h) (Or.inl ⟨by rfl, ?_⟩) ?_ ?_
        rotate_left
        · intro w'
          go_simp
          with_reducible rfl
        rotate_left
        · simp only [Act.put, List.setIfInBounds_toArray, List.set_cons_zero, List.set_cons_succ, i64_w, i32_w]
          rfl
        refine done_ (done_of HT_.out (by kernel_rfl)) ?_
        try go_wp2
        go_ret
        exact ⟨_, by first | rfl | (simp [errW_none, errW_some] <;> rfl) | (simp [*, errW_none, errW_some] <;> rfl), by (with_reducible repeat (first | apply Kd.R_alloc | apply Kd.R_drewN | apply Kd.R_drew)); exact Kd.R_mono HO143.out (fun _ hk => trivial), by repeat (first | (with_reducible first | exact HB.out | apply below_alloc | apply pw_below_drewN | apply below_drew1 | refine below_set ?_ GE128.out) | exact HB.out)⟩
      · rw [if_neg c4] at H
        exact absurd H (by simp)
    · rw [if_neg c3] at H
      exact absurd H (by simp)
  · rw [if_neg c2] at H
    exact absurd H (by simp)
def peaveyref11_beside.f (a0 : Int) (a1_0 : Int) (a1_1 : Int) : Option (Int) := some (mx (mx 0 (wrap64 (a1_0 - a0))) (wrap64 (a0 - a1_1)))
set_option maxHeartbeats 8000000 in
set_option maxRecDepth 100000 in
theorem peaveyref11_beside.calls (a0 : Int) (a1_0 : Int) (a1_1 : Int) (r : Int) (w : World) (h : peaveyref11_beside.f a0 a1_0 a1_1 = some r) :
    Calls Tryd.prog 69 #[.int .i64 a0, .agg #[.int .i64 a1_0, .int .i64 a1_1]] w fun e w' => e = .returned (.int .i64 r) ∧ Below w.heap.size w w' := by
  have hu24 := Tryd.underlying24
  have HB := Aside0.mk (Below.refl w.heap.size w)
  have H : (some (mx (mx 0 (wrap64 (a1_0 - a0))) (wrap64 (a0 - a1_1)))) = some r := h
  clear h
  obtain ⟨ji3, hji3⟩ : ∃ j_ : Int, (mx 0 (wrap64 (a1_0 - a0))) = j_ := ⟨_, rfl⟩
  replace H : (some (mx (ji3) (wrap64 (a0 - a1_1)))) = some r := by first | (rw [hji3] at H; exact H) | (simp only [hji3] at H ⊢; exact H)
  (try (have hji3l : 0 ≤ ji3 := by (rw [← hji3]; unfold mx; (repeat' split) <;> omega)))
  (try (have hji3m : 0 ≤ ji3 := by omega))
  have hji3_ : (if 0 < (wrap64 (a1_0 - a0)) then (wrap64 (a1_0 - a0)) else 0) = ji3 := hji3
  obtain ⟨ji4, hji4⟩ : ∃ j_ : Int, (mx (ji3) (wrap64 (a0 - a1_1))) = j_ := ⟨_, rfl⟩
  replace H : (some ji4) = some r := by first | (rw [hji4] at H; exact H) | (simp only [hji4] at H ⊢; exact H)
  have hji4_ : (if (ji3) < (wrap64 (a0 - a1_1)) then (wrap64 (a0 - a1_1)) else (ji3)) = ji4 := hji4
  obtain rfl := Option.some.inj H
  go_enter Tryd.func69, Tryd.ntmps69
  go_wp2_with (first | ((with_reducible refine gate_dst (N := 3) rfl ?_); refine box_event ?hg (N := 3) ?hd (cs := #[.int .i64 a1_0, .int .i64 a1_1]) (t := 24) ?hr ?_; (case hd => rfl); (case hg => rfl); (case hr => first | (go_simp; done) | (go_simp; rfl)); intro gb144 hg w5 hbox hb; have n0_ := Aside0.mk (below_step (by repeat (first | (with_reducible first | exact HB.out | apply below_alloc | apply pw_below_drewN | apply below_drew1) | exact HB.out)) hb); have n1_ := Aside0.mk (hbox); have n2_ := Aside0.mk ((by rw [hg]; exact (below_size (by repeat (first | (with_reducible first | exact HB.out | apply below_alloc | apply pw_below_drewN | apply below_drew1) | exact HB.out))) : w.heap.size ≤ gb144)); have n3_ := Aside0.mk ((by rw [hg]; exact (below_size (by repeat (first | (with_reducible first | exact HB.out | apply below_alloc | apply pw_below_drewN | apply below_drew1) | exact HB.out))) : w.heap.size ≤ gb144)); clear HB; have HB := n0_; have BK144 := n1_; have GW144 := n2_; have GE144 := n3_; clear n0_ n1_ n2_ n3_; clear hb hbox hg; have hcz6_0 : w5.cell? ⟨gb144, 0, none⟩ = some (.int .i64 a1_0) := (blk_cell BK144.out 0).trans rfl; have hcz6_1 : w5.cell? ⟨gb144, 1, none⟩ = some (.int .i64 a1_1) := (blk_cell BK144.out 1).trans rfl; have hfz6_0 := blk_frozen BK144.out 0; have hfz6_1 := blk_frozen BK144.out 1))
  go_ret
  exact ⟨by first | rfl | (simp [errW_none, errW_some] <;> rfl) | (simp only [← hji3, ← hji4]; first | rfl | (simp [errW_none, errW_some] <;> rfl)) | (simp [*, errW_none, errW_some] <;> rfl), by repeat (first | (with_reducible first | exact HB.out | apply below_alloc | apply pw_below_drewN | apply below_drew1 | refine below_set ?_ GE144.out) | exact HB.out)⟩
end Go.Proofs.YtcbhnhoicecnnaaDoor.PrK

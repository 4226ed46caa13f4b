/- GapTurned: the row from its end, wanted in the other order. -/
import Derived.Test.YtmfonbonfhngnaaGturn1
import Derived.Test.YtmfonbonfhngnaaGG
import Derived.Test.YtmfonbonfhngnaaGF
namespace Go.Proofs.Ytmfonbonfhngnaa.Pure
set_option linter.unusedVariables false
set_option linter.unusedSimpArgs false
open Go.RowKit Go.Proofs.Ytmfonbonfhngnaa.Gturn Go.Proofs.Ytmfonbonfhngnaa.PrA Go.Proofs.Ytmfonbonfhngnaa.PrR Go.Proofs.Ytmfonbonfhngnaa.PrL Go.Proofs.Ytmfonbonfhngnaa.Hand Go.Proofs.YtmfonbonfhngnaaW.PrintWords Go.Proofs.YtmfonbonfhngnaaW.PrintLast
set_option linter.unusedVariables false
set_option linter.unusedSimpArgs false

/-- the row from its end, its order turned round -/
def turnR (l : List Int) : List Int := l.reverse.map fun a => 1099511627777 - a
theorem turnR_len (l : List Int) : (turnR l).length = l.length := by simp [turnR]
theorem rd_rev {l : List Int} {i : Nat} (h : i < l.length) : rd l.reverse (i : Nat) = rd l ((l.length - 1 - i : Nat)) := by
  rw [rd_get _ (by simpa using h), rd_get l (by omega), List.getElem_reverse]
theorem turnR_rd {l : List Int} {i : Nat} (h : i < l.length) : rd (turnR l) (i : Nat) = 1099511627777 - rd l ((l.length - 1 - i : Nat)) := by
  rw [← rd_rev h, rd_get _ (by rw [turnR_len]; exact h), rd_get l.reverse (by simpa using h)]
  simp [turnR]
theorem turnR_turnR (l : List Int) : turnR (turnR l) = l := by
  unfold turnR
  rw [← List.map_reverse, List.reverse_reverse, List.map_map]
  refine (List.map_congr_left fun a _ => ?_).trans (List.map_id l)
  simp only [Function.comp, id]; omega
theorem cntO_countP (out : List Int) : cntO out = (out.countP fun a => decide (0 ≤ a) : Nat) := by
  unfold cntO
  have : out.countP (fun a => decide (0 ≤ a)) = (List.range out.length).countP fun i => decide (0 ≤ rd out (i : Nat)) := by
    have e : out = (List.range out.length).map fun i => rd out (i : Nat) := by
      apply List.ext_getElem
      · simp
      · intro i h1 h2
        simp only [List.getElem_map, List.getElem_range]
        rw [rd_get out h1]
    have h2 := congrArg (List.countP fun a => decide (0 ≤ a)) e
    rw [List.countP_map] at h2
    exact h2
  rw [this, count_tot]
  refine totG_congr fun i _ => ?_
  simp only [decide_eq_true_eq]
theorem put_turn {l out : List Int} {k : Int} (h : Put l out k) : Put (turnR l) out.reverse k ∧ cntO out.reverse = cntO out := by
  have hl := h.len
  refine ⟨⟨by rw [turnR_len, List.length_reverse]; exact hl, fun i hi => ?_, fun i j hij hj h0 he => ?_⟩, ?_⟩
  · rw [turnR_len] at hi
    rw [rd_rev (by omega)]
    exact h.range _ (by omega)
  · rw [turnR_len] at hj
    rw [rd_rev (by omega)] at h0 he
    rw [rd_rev (by omega)] at he
    rw [turnR_rd (by omega), turnR_rd (by omega)]
    have := h.order (out.length - 1 - j) (out.length - 1 - i) (by omega) (by omega) (by omega) he.symm
    rw [hl] at this
    omega
  · rw [cntO_countP, cntO_countP, List.countP_reverse]
theorem best_turn_le {l : List Int} (hl : l.length ≤ 30) {k : Nat} (hk : k ≤ 30) : best l k ≤ best (turnR l) k := by
  obtain ⟨out, h1, h2⟩ := best_put hl hk
  obtain ⟨h3, h4⟩ := put_turn h1
  have := put_best h3
  omega
theorem best_turn {l : List Int} (hl : l.length ≤ 30) {k : Nat} (hk : k ≤ 30) : best (turnR l) k = best l k := by
  have h1 := best_turn_le hl hk
  have h2 := best_turn_le (l := turnR l) (by rw [turnR_len]; exact hl) hk
  rw [turnR_turnR] at h2
  omega
theorem lines_of_best {l x : List Int} (hlen : x.length = l.length) (hl : l.length ≤ 30) (h : ∀ k, k ≤ 30 → best x k = best l k) : lines x = lines l := by
  have h1 := lines_le_len l
  have h2 := lines_le_len x
  apply Classical.byContradiction
  intro hn
  by_cases c : lines x < lines l
  · have := best_lt l (k := lines x) c
    rw [← h (lines x) (by omega), show best x (lines x) = x.length from best_all x (Nat.le_refl _)] at this
    omega
  · have := best_lt x (k := lines l) (by unfold lines at *; omega)
    rw [h (lines l) (by omega), show best l (lines l) = l.length from best_all l (Nat.le_refl _)] at this
    omega
theorem shape_of_best {l x : List Int} (hlen : x.length = l.length) (hl : l.length ≤ 30) (h : ∀ k, k ≤ 30 → best x k = best l k) : shapeI x = shapeI l := by
  have hlines := lines_of_best hlen hl h
  have h1 := lines_le_len l
  apply List.ext_getElem
  · rw [shapeI_len, shapeI_len, hlines]
  · intro i g1 g2
    rw [shapeI_len] at g1
    have e1 := shapeI_get x i
    have e2 := shapeI_get l i
    rw [rd_get _ (by rw [shapeI_len]; exact g1)] at e1
    rw [rd_get _ g2] at e2
    have b1 := best_succ x i
    have b2 := best_succ l i
    have b3 := h i (by omega)
    have b4 := h (i + 1) (by omega)
    rw [e1, e2]; omega
theorem back_go (l : List Int) (hl : l.length ≤ 1000) (d : Nat) : ∀ (K : Nat) (x : List Int), d ≤ l.length → d < K → x.length + d = l.length → peaveylaw03_back.l0 K l x ((d : Int) - 1) = some (x ++ (l.take d).reverse) := by
  induction d with
  | zero =>
    intro K x hd hK hx
    obtain ⟨K, rfl⟩ : ∃ q, K = q + 1 := ⟨K - 1, by omega⟩
    rw [peaveylaw03_back.l0, if_neg (by omega)]; simp
  | succ d ih =>
    intro K x hd hK hx
    obtain ⟨K, rfl⟩ : ∃ q, K = q + 1 := ⟨K - 1, by omega⟩
    rw [peaveylaw03_back.l0, show ((d + 1 : Nat) : Int) - 1 = (d : Int) by omega, if_pos (by omega), if_pos (by omega), if_pos (by omega), if_pos (by omega), IntWalk.wrap64_in _ ⟨by omega, by omega⟩, ih K _ (by omega) (by omega) (by simp; omega)]
    rw [List.take_succ_eq_append_getElem (by omega), List.reverse_append, rd_get l (by omega)]
    simp
theorem back_is (l : List Int) (hl : l.length ≤ 1000) (K : Nat) (hK : 1001 ≤ K) : peaveylaw03_back.f K l = some l.reverse := by
  unfold peaveylaw03_back.f
  rw [IntWalk.wrap64_in _ ⟨by omega, by omega⟩, back_go l hl l.length K [] (Nat.le_refl _) (by omega) (by simp), List.nil_append, List.take_length]
theorem turnR_row {l : List Int} (h : rowE l = 0) : rowE (turnR l) = 0 := by
  obtain ⟨hl, hp⟩ := row_zero h
  refine row_of (by rw [turnR_len]; exact hl) fun a ha => ?_
  obtain ⟨b, hb, rfl⟩ := List.mem_map.1 ha
  have := hp b (List.mem_reverse.1 hb)
  omega
/-- the run from its end -/
theorem run_turn {l : List Int} {y : List Nat} (h : RunN l y) : RunN (turnR l) (y.map fun a => l.length - 1 - a).reverse := by
  refine ⟨?_, fun a ha => ?_⟩
  · rw [List.pairwise_reverse, List.pairwise_map]
    refine h.1.imp_of_mem fun {a b} ma mb hab => ?_
    have h1 := h.2 a ma
    have h2 := h.2 b mb
    rw [turnR_rd (by omega), turnR_rd (by omega), show l.length - 1 - (l.length - 1 - a) = a by omega, show l.length - 1 - (l.length - 1 - b) = b by omega]
    exact ⟨by omega, by omega⟩
  · obtain ⟨b, hb, rfl⟩ := List.mem_map.1 (List.mem_reverse.1 ha)
    have := h.2 b hb
    rw [turnR_len]; omega
theorem turned_l1 {l x : List Int} {y : List Nat} (hl : l.length ≤ 30) (hy : RunN l y) (hyl : y.length ≤ 30) (hx : crV x (natsI (y.map fun a => l.length - 1 - a).reverse) = 0) (d : Nat) : ∀ (K : Nat) (z : List Int), d ≤ y.length → 2100 + d < K → z = natsI ((y.drop d).map fun a => l.length - 1 - a).reverse → peaveylaw03_GapTurned.l1 K l x (natsI y) z ((d : Int) - 1) = some true := by
  induction d with
  | zero =>
    intro K z hd hK hz
    obtain ⟨K, rfl⟩ : ∃ q, K = q + 1 := ⟨K - 1, by omega⟩
    rw [List.drop_zero] at hz
    rw [peaveylaw03_GapTurned.l1, if_neg (by omega), hz, gapRun_is (by rw [natsI_len]; simp; omega) K (by omega), hx, Option.bind_some, if_pos rfl, works_k]; rfl
  | succ d ih =>
    intro K z hd hK hz
    obtain ⟨K, rfl⟩ : ∃ q, K = q + 1 := ⟨K - 1, by omega⟩
    have hlt : d < y.length := by omega
    have hyd := hy.2 y[d] (List.getElem_mem hlt)
    have hrd : rd (natsI y) (d : Nat) = (y[d] : Int) := by
      rw [rd_get _ (by rw [natsI_len]; exact hlt)]
      simp [natsI]
    have hzl : z.length ≤ 30 := by rw [hz, natsI_len]; simp; omega
    rw [peaveylaw03_GapTurned.l1, show ((d + 1 : Nat) : Int) - 1 = (d : Int) by omega, if_pos (by omega), if_pos (by omega), if_pos (by rw [natsI_len]; omega), if_pos (by omega), hrd, IntWalk.wrap64_in ((l.length : Int) - 1) ⟨by omega, by omega⟩, IntWalk.wrap64_in ((l.length : Int) - 1 - y[d]) ⟨by omega, by omega⟩, IntWalk.wrap64_in ((d : Int) - 1) ⟨by omega, by omega⟩]
    refine ih K _ (by omega) (by omega) ?_
    rw [hz, List.drop_eq_getElem_cons hlt, List.map_cons, List.reverse_cons, natsI_app]
    congr 1
    show [((l.length : Int) - 1 - (y[d] : Nat))] = [((l.length - 1 - y[d] : Nat) : Int)]
    congr 1
    omega
theorem turned_j1 {l x : List Int} {y : List Nat} (hl : l.length ≤ 30) (hy : RunN l y) (hyl : y.length ≤ 30) (hx : crV x (natsI (y.map fun a => l.length - 1 - a).reverse) = 0) (K : Nat) (hK : 2200 < K) : peaveylaw03_GapTurned.j1 K l x (natsI y) false = some true := by
  obtain ⟨K, rfl⟩ : ∃ q, K = q + 1 := ⟨K - 1, by omega⟩
  rw [peaveylaw03_GapTurned.j1, if_neg (by decide), natsI_len, IntWalk.wrap64_in _ ⟨by omega, by omega⟩]
  exact turned_l1 hl hy hyl hx y.length K [] (Nat.le_refl _) (by omega) (by rw [List.drop_length]; rfl)
theorem turned_end {l : List Int} {a : Int} (ha : 0 ≤ a ∧ a ≤ 255) (h : rowE l = 0) (K : Nat) (hK : 71000 ≤ K) : peaveylaw03_GapTurned.l0 (K + 1) l a (turnR l) (l.length : Nat) = some true := by
  obtain ⟨hl, _⟩ := row_zero h
  have hx := turnR_row h
  have hxl := turnR_len l
  obtain ⟨m, hm, hm2⟩ := pockets_is ha
  obtain ⟨y, y1, y2, y3⟩ := run_is h
  obtain ⟨z, z1, z2, z3⟩ := run_is hx
  have hb : ∀ k, k ≤ 30 → best (turnR l) k = best l k := fun k hk => best_turn hl hk
  have hlines := lines_of_best hxl hl hb
  have hshape := shape_of_best hxl hl hb
  have hll := lines_le_len l
  rw [peaveylaw03_GapTurned.l0, if_neg (by omega), hm, Option.bind_some, shape_is h K (by omega), Option.bind_some, shape_is hx K (by omega), Option.bind_some, most_is h (by omega) (by omega) K (by omega), Option.bind_some, most_is hx (by omega) (by omega) K (by omega), Option.bind_some, gap_Run.f, y1, Option.bind_some, gap_Run.f, z1, Option.bind_some]
  simp only [if_true, Int.toNat_natCast]
  rw [hshape, ints_eq _ _ (by rw [shapeI_len]; omega) K (by omega), Option.bind_some, if_pos (decide_eq_true rfl), hb m hm2, if_pos rfl]
  have hlen : ((natsI y).length : Int) = (natsI z).length := by rw [natsI_len, natsI_len, y3, z3, hlines]
  rw [show (((natsI y).length : Int) != (natsI z).length) = false by rw [hlen]; simp]
  exact turned_j1 hl y2 (by omega) (by unfold crV; rw [if_neg (by omega), run_ok (run_turn y2)]) K (by omega)
theorem turned_go {l : List Int} {a : Int} (ha : 0 ≤ a ∧ a ≤ 255) (h : rowE l = 0) (d : Nat) : ∀ (i K : Nat) (x : List Int), i + d = l.length → 71001 + d ≤ K → x.length = l.length → (∀ j, j < l.length → rd x (j : Nat) = if j < i then rd (turnR l) (j : Nat) else rd l.reverse (j : Nat)) → peaveylaw03_GapTurned.l0 K l a x i = some true := by
  obtain ⟨hl, hp⟩ := row_zero h
  induction d with
  | zero =>
    intro i K x hi hK hxl hx
    obtain ⟨K, rfl⟩ : ∃ q, K = q + 1 := ⟨K - 1, by omega⟩
    have : x = turnR l := by
      apply List.ext_getElem
      · rw [hxl, turnR_len]
      · intro j g1 g2
        have := hx j (by omega)
        rw [if_pos (by omega), rd_get x g1, rd_get _ g2] at this
        exact this
    rw [this, show i = l.length by omega]
    exact turned_end ha h K (by omega)
  | succ d ih =>
    intro i K x hi hK hxl hx
    obtain ⟨K, rfl⟩ : ∃ q, K = q + 1 := ⟨K - 1, by omega⟩
    have hxi := hx i (by omega)
    rw [if_neg (by omega), rd_rev (by omega)] at hxi
    have hr := rd_get l (i := l.length - 1 - i) (by omega)
    have hpi := hp _ (List.getElem_mem (show l.length - 1 - i < l.length by omega))
    rw [← hr, ← hxi] at hpi
    have ht := turnR_rd (l := l) (i := i) (by omega)
    rw [← hxi] at ht
    rw [peaveylaw03_GapTurned.l0, if_pos (by omega), if_pos (by omega), Int.toNat_natCast, IntWalk.wrap64_in _ ⟨by omega, by omega⟩, wrap_succ (by omega)]
    refine ih (i + 1) K _ (by omega) (by omega) (by rw [List.length_set]; exact hxl) fun j hj => ?_
    by_cases e : j = i
    · subst e
      rw [rd_set_same x (by omega), if_pos (by omega), ht]
    · rw [rd_set_other x e, hx j hj]
      by_cases c : j < i
      · rw [if_pos c, if_pos (by omega)]
      · rw [if_neg c, if_neg (by omega)]
theorem GapTurned : peaveylaw03_GapTurned.Pure := by
  intro l a _ _ _ ha
  have ha' := wf_u8 ha
  refine ⟨80000, ?_⟩
  unfold peaveylaw03_GapTurned.f
  rw [fine_is l 80000 (by omega), Option.bind_some]
  by_cases h : rowE l = 0
  · obtain ⟨hl, _⟩ := row_zero h
    rw [if_pos (decide_eq_true h), back_is l (by omega) 80000 (by omega), Option.bind_some]
    exact turned_go ha' h l.length 0 80000 l.reverse (by omega) (by omega) (by simp) fun j hj => by rw [if_neg (by omega)]
  · rw [if_neg (by rw [decide_eq_true_eq]; exact h), works_k]; rfl
end Go.Proofs.Ytmfonbonfhngnaa.Pure

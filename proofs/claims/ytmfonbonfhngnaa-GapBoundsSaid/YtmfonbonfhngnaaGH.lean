/- Texts of the claim, joined: HTabA, HTabW, HTabC. -/
import Derived.Test.YtmfonbonfhngnaaGD
import Derived.Test.YtmfonbonfhngnaaGE
import Derived.Test.YtmfonbonfhngnaaGF
/- Lines of numbers that a call made: one more line, a number at a line's end, a number in another one's place. -/
namespace Go.Proofs.Ytmfonbonfhngnaa.Hand
set_option linter.unusedVariables false
set_option linter.unusedSimpArgs false
open Go.RowKit Go.Maps Go.Proofs.YtmfonbonfhngnaaW.PrintWords Go.Proofs.YtmfonbonfhngnaaW.PrintLast Go.Proofs.YtmfonbonfhngnaaW.PrintMore Go.Proofs.Ytmfonbonfhngnaa.PrA

def InnL (W : World) (base : Nat) (ps : List (Value × List Int)) : Prop := ∀ p ∈ ps, W.ownsRow base 2 1 p.1 p.2.length (nums .i64 p.2)
def OutL (W : World) (base : Nat) (v : Value) (ps : List (Value × List Int)) : Prop := W.ownsRow base 22 1 v ps.length (ps.map Prod.fst)
theorem infoRowL : (Try.prog.info? 22).map (fun i => (i.zero, i.size, i.bytes)) = some (some (.slice none 0 0), 1, 24) := by kernel_rfl
theorem OutL.cell {W : World} {base g c : Nat} {ps : List (Value × List Int)} (h : OutL W base (.slice (some ⟨g, 0, none⟩) ps.length c) ps) {j : Nat} (hj : j < ps.length) : W.cell? ⟨g, j, none⟩ = some (ps[j]).1 := by
  rw [World.ownsRow.cellAt h j (by omega)]
  simp [hj]
theorem OutL.free {W : World} {base g c : Nat} {ps : List (Value × List Int)} (h : OutL W base (.slice (some ⟨g, 0, none⟩) ps.length c) ps) (j : Nat) : W.frozen? ⟨g, j, none⟩ = false := World.ownsRow.frozenAt h j
theorem OutL.set {W : World} {base g c : Nat} {ps : List (Value × List Int)} (h : OutL W base (.slice (some ⟨g, 0, none⟩) ps.length c) ps) (j : Nat) (q : Value × List Int) :
    OutL (W.setCell ⟨g, j, none⟩ q.1) base (.slice (some ⟨g, 0, none⟩) ps.length c) (ps.set j q) := by
  have h1 := (World.ownsRow.stored h j q.1).1
  unfold OutL
  rw [List.length_set, List.map_set]
  exact h1
structure TabAt (w W : World) (v : Value) (ps : List (Value × List Int)) : Prop where
  l : OutL W w.heap.size v ps
  il : InnL W w.heap.size ps
  al : Apart ps
  b : Below w.heap.size w W
section
variable {w W w5 : World} {v v5 : Value} {ps : List (Value × List Int)}
theorem TabAt.start (w : World) : TabAt w w (.slice none 0 0) [] := ⟨⟨rfl, .inl ⟨rfl, rfl⟩⟩, fun p hp => absurd hp (by simp), Apart.nil, Below.refl _ _⟩
theorem TabAt.below (h : TabAt w W v ps) {W' : World} (hb : Below W.heap.size W W') : TabAt w W' v ps :=
  ⟨own_below h.l hb, fun p hp => own_below (h.il p hp) hb, h.al, h.b.trans (hb.mono h.b.size)⟩
theorem TabAt.addNil (h : TabAt w W v ps) {W1 : World} (hW : W1 = W.alloc (.cells #[.slice none 0 0] 22))
    (ho : w5.ownsRow w.heap.size 22 1 v5 (ps.length + 1) (ps.map Prod.fst ++ [.slice none 0 0])) (hg : W1.grownBy w5 v.ownBlock) :
    TabAt w w5 v5 (ps ++ [(.slice none 0 0, [])]) := by
  subst hW
  have hs : W.heap.size ≥ w.heap.size := h.b.size
  have l1 := h.l.alloc (.cells #[.slice none 0 0] 22)
  refine ⟨?_, fun p hp => ?_, h.al.snoc (fun p _ => (Ap.nil _).symm), ?_⟩
  · unfold OutL
    rw [List.length_append, List.map_append]
    exact ho
  · rcases List.mem_append.1 hp with h1 | h1
    · have h2 := (h.il p h1).alloc (.cells #[.slice none 0 0] 22)
      exact h2.kept hg (own_types h2 l1 (by decide))
    · rw [List.mem_singleton.1 h1]; exact ⟨rfl, .inl ⟨rfl, rfl⟩⟩
  · exact (h.b.alloc h.b.size _).grown hg (by have := h.b.size; simp; omega) (fun j e => own_from l1 e)
theorem TabAt.addTo {g c : Nat} (h : TabAt w W (.slice (some ⟨g, 0, none⟩) ps.length c) ps) (i : Int) {f : Nat} (hf : f < ps.length) {u' : Value} {W1 : World} (hW : W1 = W.alloc (.cells #[.int .i64 i] 2))
    (ho : w5.ownsRow w.heap.size 2 1 u' (ps[f].2.length + 1) (nums .i64 ps[f].2 ++ [.int .i64 i])) (hg : W1.grownBy w5 ps[f].1.ownBlock) (hat : u'.ownBlock = ps[f].1.ownBlock ∨ u'.ownBlock = some W1.heap.size) :
    TabAt w (w5.setCell ⟨g, f, none⟩ u') (.slice (some ⟨g, 0, none⟩) ps.length c) (ps.set f (u', ps[f].2 ++ [i])) := by
  subst hW
  have hs : W.heap.size ≥ w.heap.size := h.b.size
  have l1 := h.l.alloc (.cells #[.int .i64 i] 2)
  have u1 := (h.il ps[f] (List.getElem_mem hf)).alloc (.cells #[.int .i64 i] 2)
  have gs := grown_set w5 g f u'
  have l2 : OutL w5 w.heap.size (.slice (some ⟨g, 0, none⟩) ps.length c) ps := l1.kept hg (own_types l1 u1 (by decide))
  have n2 : w5.ownsRow w.heap.size 2 1 u' (ps[f].2 ++ [i]).length (nums .i64 (ps[f].2 ++ [i])) := by
    rw [List.length_append, show nums .i64 (ps[f].2 ++ [i]) = nums .i64 ps[f].2 ++ [.int .i64 i] by simp [nums]]
    exact ho
  have hx2 : ∀ {v : Value} {n : Nat} {xs : List Value} {e : TypeId}, Ap v ps[f].1 → W.ownsRow w.heap.size e 1 v n xs → Ap v u' := fun ha hv => by
    rcases hat with e | e
    · unfold Ap; rw [e]; exact ha
    · exact Ap.lt hv (fun k e2 => by rw [e] at e2; cases e2; simp) (rfl : (0 : Nat) = 0)
  have al : ∀ j (p : Value × List Int), j ≠ f → ps[j]? = some p → Ap p.1 ps[f].1 := fun j p hj hp => h.al j f p ps[f] hj hp (List.getElem?_eq_getElem hf)
  have il2 : ∀ j (p : Value × List Int), j ≠ f → ps[j]? = some p → w5.ownsRow w.heap.size 2 1 p.1 p.2.length (nums .i64 p.2) := fun j p hj hp =>
    ((h.il p (List.mem_of_getElem? hp)).alloc (.cells #[.int .i64 i] 2)).kept hg (al j p hj hp)
  have il3 : InnL w5 w.heap.size (ps.set f (u', ps[f].2 ++ [i])) := fun p hp => by
    obtain ⟨j, hj⟩ := List.mem_iff_getElem?.1 hp
    rw [List.getElem?_set] at hj
    split at hj
    · cases hj; exact n2
    · rename_i hne
      exact il2 j p (by omega) hj
  have ls := l2.set f (u', ps[f].2 ++ [i])
  refine ⟨ls, fun p hp => (il3 p hp).kept gs (own_types (il3 p hp) l2 (by decide)), ?_, ?_⟩
  · exact h.al.set fun j p hj hp => hx2 (al j p hj hp) (h.il p (List.mem_of_getElem? hp))
  · exact ((h.b.alloc h.b.size _).grown hg (by have := h.b.size; simp; omega) (fun j e => own_from u1 e)).grown gs (by have := h.b.size; have := hg.size; simp at this; omega) (fun j e => own_from l2 (by simpa [Value.ownBlock] using e))
/-- a number in a line in another one's place -/
theorem TabAt.setIn (h : TabAt w W v ps) {f p : Nat} (hf : f < ps.length) {g1 c1 : Nat} (he : ps[f].1 = .slice (some ⟨g1, 0, none⟩) ps[f].2.length c1) (hp : p < ps[f].2.length) (x : Int) :
    TabAt w (W.setCell ⟨g1, p, none⟩ (.int .i64 x)) v (ps.set f (ps[f].1, ps[f].2.set p x)) := by
  have u1 := h.il ps[f] (List.getElem_mem hf)
  have gs := grown_set W g1 p (.int .i64 x)
  have u2 := u1
  rw [he] at u2
  have hb : ps[f].1.ownBlock = some g1 := by rw [he]; rfl
  refine ⟨?_, fun q hq => ?_, ?_, ?_⟩
  · have : OutL (W.setCell ⟨g1, p, none⟩ (.int .i64 x)) w.heap.size v ps := h.l.kept gs (by
      rcases own_types h.l u1 (by decide) with e | e
      · exact .inl e
      · right; rw [hb] at e; exact e)
    unfold OutL at this ⊢
    rw [List.length_set, List.map_set]
    have e : (ps.map Prod.fst).set f ps[f].1 = ps.map Prod.fst := by
      apply List.ext_getElem
      · simp
      · intro j h1 h2
        rw [List.getElem_set]
        split
        · rename_i hj; subst hj; simp
        · rfl
    rw [e]; exact this
  · obtain ⟨j, hj⟩ := List.mem_iff_getElem?.1 hq
    rw [List.getElem?_set] at hj
    split at hj
    · cases hj
      have := own_set u2 hp x
      rw [he, List.length_set]
      exact this
    · rename_i hne
      have hjj : ps[j]? = some q := hj
      refine (h.il q (List.mem_of_getElem? hjj)).kept gs ?_
      rcases h.al j f q ps[f] (by omega) hjj (List.getElem?_eq_getElem hf) with e | e
      · exact .inl e
      · right; rw [hb] at e; exact e
  · exact h.al.set fun j q hj hq => h.al j f q ps[f] hj hq (List.getElem?_eq_getElem hf)
  · exact h.b.grown gs (by have := h.b.size; omega) (fun j e => by cases e; exact own_from u1 hb)
end
/-! ### what is computed, line by line -/
theorem bump_end {n : Int} {r : List Int} (h : ∀ a ∈ r, a ≤ n) : bump n r = (r ++ [n], none) := by
  induction r with
  | nil => rfl
  | cons b r ih =>
    rw [bump, if_pos (h b List.mem_cons_self), ih fun a ha => h a (List.mem_cons_of_mem _ ha)]; rfl
theorem bump_in_at {n : Int} : ∀ {r : List Int} {p : Nat} (hp : p < r.length), (∀ q (hq : q < p), r[q] ≤ n) → n < r[p] → bump n r = (r.set p n, some r[p])
  | [], p, hp, _, _ => by simp at hp
  | b :: r, 0, hp, _, h => by
    rw [bump, if_neg (by simpa using h)]; rfl
  | b :: r, p + 1, hp, hq, h => by
    have h0 := hq 0 (by omega)
    rw [bump, if_pos (by simpa using h0), bump_in_at (r := r) (p := p) (by simpa using hp) (fun q h1 => by
      have := hq (q + 1) (by omega); simpa using this) (by simpa using h)]
    rfl
theorem ins_end {n : Int} {A T : List (List Int)} {r : List Int} (h : ∀ a ∈ r, a ≤ n) : A ++ insT n (r :: T) = A ++ (r ++ [n]) :: T := by
  rw [insT, bump_end h]
theorem ins_step {n : Int} {A T : List (List Int)} {r : List Int} {p : Nat} (hp : p < r.length) (h1 : ∀ q (hq : q < p), r[q] ≤ n) (h2 : n < r[p]) : A ++ insT n (r :: T) = (A ++ [r.set p n]) ++ insT r[p] T := by
  rw [insT, bump_in_at hp h1 h2]
  simp
theorem tabF_snoc (w : List Int) (a : Int) : tabF (w ++ [a]) = insT a (tabF w) := by
  unfold tabF; rw [List.foldl_append]; rfl
end Go.Proofs.Ytmfonbonfhngnaa.Hand

/- The walk of the reference's Tableau: number by number, line by line. -/
namespace Go.Proofs.Ytmfonbonfhngnaa.Hand
set_option linter.unusedVariables false
set_option linter.unusedSimpArgs false
open Go.RowKit Go.Maps Go.Proofs.YtmfonbonfhngnaaW.PrintWords Go.Proofs.YtmfonbonfhngnaaW.PrintLast Go.Proofs.YtmfonbonfhngnaaW.PrintMore Go.Proofs.Ytmfonbonfhngnaa.PrA

/-- what is so before a line is looked at -/
def LineI (w W : World) (v : Value) (ps : List (Value × List Int)) (j L : Nat) (n : Int) (res : List (List Int)) : Prop :=
  TabAt w W v ps ∧ L ≤ ps.length ∧ ps.length ≤ j ∧ (∀ q ∈ ps, q.2.length ≤ j) ∧ res = (ps.map Prod.snd).take L ++ insT n ((ps.map Prod.snd).drop L)

theorem take_set_succ {α : Type} {T : List α} {L : Nat} (h : L < T.length) (x : α) : (T.set L x).take (L + 1) = T.take L ++ [x] := by
  rw [List.take_succ_eq_append_getElem (by simpa using h), List.getElem_set_self, List.take_set_of_le (Nat.le_refl _)]
theorem drop_set_succ {α : Type} {T : List α} {L : Nat} (x : α) : (T.set L x).drop (L + 1) = T.drop (L + 1) := by
  rw [List.drop_set_of_lt (by omega)]
theorem line_step {w W : World} {v : Value} {ps : List (Value × List Int)} {j L p : Nat} {n : Int} {res : List (List Int)} {u : Value} (hT : TabAt w W v (ps.set L (u, ((ps[L]?).map Prod.snd).getD [] |>.set p n))) (hL : L < ps.length) (hj : ps.length ≤ j) (hq : ∀ q ∈ ps, q.2.length ≤ j)
    (hr : res = (ps.map Prod.snd).take L ++ insT n ((ps.map Prod.snd).drop L)) (hp : p < (ps[L]).2.length) (h1 : ∀ q (h : q < p), ((ps[L]).2)[q] ≤ n) (h2 : n < ((ps[L]).2)[p]) : LineI w W v (ps.set L (u, (ps[L]).2.set p n)) j (L + 1) ((ps[L]).2)[p] res := by
  have e : ((ps[L]?).map Prod.snd).getD [] = (ps[L]).2 := by simp [hL]
  rw [e] at hT
  refine ⟨hT, by rw [List.length_set]; omega, by rw [List.length_set]; exact hj, fun q hm => ?_, ?_⟩
  · obtain ⟨i, hi⟩ := List.mem_iff_getElem?.1 hm
    rw [List.getElem?_set] at hi
    split at hi
    · cases hi
      rw [List.length_set]
      exact hq _ (List.getElem_mem hL)
    · exact hq q (List.mem_of_getElem? hi)
  · rw [hr, List.map_set, take_set_succ (by simpa using hL), drop_set_succ, List.drop_eq_getElem_cons (by simpa using hL)]
    have e2 : (ps.map Prod.snd)[L]'(by simpa using hL) = (ps[L]).2 := by simp
    rw [e2]
    exact ins_step hp h1 h2
theorem line_end {ps : List (Value × List Int)} {L : Nat} {n : Int} {res : List (List Int)} {u : Value} (hL : L < ps.length) (hr : res = (ps.map Prod.snd).take L ++ insT n ((ps.map Prod.snd).drop L)) (h1 : ∀ a ∈ (ps[L]).2, a ≤ n) : (ps.set L (u, (ps[L]).2 ++ [n])).map Prod.snd = res := by
  rw [hr, List.drop_eq_getElem_cons (by simpa using hL)]
  have e2 : (ps.map Prod.snd)[L]'(by simpa using hL) = (ps[L]).2 := by simp
  rw [e2, ins_end h1, List.map_set]
  have e3 : (ps.map Prod.snd).set L ((ps[L]).2 ++ [n]) = ((ps.map Prod.snd).set L ((ps[L]).2 ++ [n])).take (L + 1) ++ ((ps.map Prod.snd).set L ((ps[L]).2 ++ [n])).drop (L + 1) := (List.take_append_drop _ _).symm
  rw [e3, take_set_succ (by simpa using hL), drop_set_succ]
  simp
set_option maxHeartbeats 4000000 in
set_option maxRecDepth 100000 in
theorem tableau_any (A : Option Addr) (c : Nat) (l : List Int) (w : World) (hr : Kd.C (Kd.int .i64) w A l.length l) (hc : l.length ≤ c) (hl : l.length ≤ 30) :
    Calls Try.prog 72 #[.slice A l.length c] w fun e w' => ∃ v ps, e = .returned v ∧ TabAt w w' v ps ∧ ps.map Prod.snd = tabF l := by
  have HR := Lib.hid hr
  have l30 : (l.length : Int) ≤ 30 := by omega
  have HL30 := Lib.hid hl
  obtain ⟨ii, hi, hz0, hz1, hz2⟩ := info_parts info64
  obtain ⟨ir, hir, hr0, hr1, hr2⟩ := info_parts infoRowL
  have HR0 := Lib.hid (TabAt.start w)
  clear hr hl
  go_enter Try.func72, Try.ntmps72
  go_wp2_with fail
  go_loopw [3, 4] (fun v3 i wr => ∃ (j : Nat) (ps : List (Value × List Int)), j ≤ l.length ∧ i = .int .i64 j ∧ Hid (TabAt w wr v3 ps ∧ ps.map Prod.snd = tabF (l.take j))) (fun _ i _ => 60 - (intOf i).toNat)
  case atStart => exact ⟨0, [], Nat.zero_le _, rfl, Lib.hid ⟨HR0.out, rfl⟩⟩
  case round =>
    obtain ⟨j, ps, hj, rfl, HI⟩ := hrel
    obtain ⟨wo, rfl⟩ : ∃ wo : World, wo = wr := ⟨_, rfl⟩
    obtain ⟨v3, rfl⟩ : ∃ v3, v3 = u3 := ⟨_, rfl⟩
    have j0 : (0 : Int) ≤ (j : Int) := by omega
    by_cases hlt : j < l.length
    · have hlti : (j : Int) < (l.length : Int) := by omega
      obtain ⟨ad, rfl, hx0⟩ := Kd.at_int HR.out (j : Int) j0 hlti
      rw [Int.toNat_natCast] at hx0
      replace hx0 := (HI.out.1.b.cell (cell_size hx0)).trans hx0
      obtain ⟨n, hn⟩ : ∃ n, n = rd l (j : Int) := ⟨_, rfl⟩
      rw [← hn] at hx0
      have hres : tabF (l.take (j + 1)) = insT n (tabF (l.take j)) := by
        rw [List.take_succ_eq_append_getElem hlt, tabF_snoc, ← rd_get l hlt, ← hn]
      obtain ⟨res, hre⟩ : ∃ res, res = tabF (l.take (j + 1)) := ⟨_, rfl⟩
      have hlen : ps.length ≤ j ∧ ∀ q ∈ ps, q.2.length ≤ j := by
        have e := HI.out.2
        have h1 := tabF_sum (l.take j)
        rw [List.length_take, Nat.min_eq_left (by omega)] at h1
        have h2 := lines_le_len (l.take j)
        rw [List.length_take, Nat.min_eq_left (by omega)] at h2
        unfold lines at h2
        have h4 := congrArg List.length e
        rw [List.length_map] at h4
        refine ⟨by omega, fun q hq => ?_⟩
        have hm : q.2 ∈ tabF (l.take j) := by rw [← e]; exact List.mem_map.2 ⟨q, hq, rfl⟩
        have key : ∀ (T : List (List Int)), q.2 ∈ T → q.2.length ≤ sumL (lens T) := by
          intro T
          induction T with
          | nil => intro h; cases h
          | cons r T ih =>
            intro h
            show _ ≤ r.length + sumL (lens T)
            rcases List.mem_cons.1 h with h | h
            · rw [h]; omega
            · have := ih h; omega
        have := key _ hm
        omega
      have HST : Hid (LineI w wo v3 ps j 0 n res) := Lib.hid ⟨HI.out.1, Nat.zero_le _, hlen.1, hlen.2, by rw [hre, hres, ← HI.out.2]; rfl⟩
      have HRE := Lib.hid hre
      clear hn hres hre hlen
      go_wp2_with fail
      clear hx0
      go_loopw [3, 5, 6, 7] (fun v3 v5 v6 v7 wr => ∃ (ps : List (Value × List Int)) (n : Int) (pt : Bool) (L : Nat), v5 = .int .i64 n ∧ v6 = .bool pt ∧ v7 = .int .i64 L ∧ L ≤ 40 ∧ Hid (TabAt w wr v3 ps) ∧ Hid (pt = false → LineI w wr v3 ps j L n res) ∧ Hid (pt = true → ps.map Prod.snd = res)) (fun _ _ _ v7 _ => 60 - (intOf v7).toNat)
      case atStart => exact ⟨ps, n, false, 0, rfl, rfl, rfl, by omega, Lib.hid HST.out.1, Lib.hid (fun _ => HST.out), Lib.hid (fun h => by cases h)⟩
      case round =>
        obtain ⟨pq, n2, pt, L, rfl, rfl, rfl, hL40, HQ, HN, HP⟩ := hrel
        obtain ⟨wq, rfl⟩ : ∃ wq : World, wq = wr := ⟨_, rfl⟩
        obtain ⟨v3', rfl⟩ : ∃ v, v = u3 := ⟨_, rfl⟩
        obtain ⟨A3, c3, rfl, -⟩ := own_form HQ.out.l
        cases pt
        · have hn := HN.out rfl
          have HISQ : Hid (wq.heap.size ≥ w.heap.size) := Lib.hid HQ.out.b.size
          have hj30 : j ≤ 30 := by have := HL30.out; omega
          have hLp : L ≤ pq.length := hn.2.1
          have hpj : pq.length ≤ j := hn.2.2.1
          have HNN := Lib.hid hn
          clear hn
          go_upto_if 26 with (fail)
          go_cut [3] (fun x3 wc => ∃ p2 : List (Value × List Int), L < p2.length ∧ p2.length ≤ j + 1 ∧ Hid (TabAt w wc x3 p2) ∧ Hid ((p2.length ≤ j ∨ ∀ h : L < p2.length, p2[L].2.length = 0) ∧ (∀ q ∈ p2, q.2.length ≤ j) ∧ res = (p2.map Prod.snd).take L ++ insT n2 ((p2.map Prod.snd).drop L)))
          case first =>
            by_cases hLe : L = pq.length
            · have hb : ((L : Int) == (pq.length : Int)) = true := beq_iff_eq.2 (by omega)
              have HLE := Lib.hid hLe
              clear hLe
              go_wp2_with (first | (at_builtin; refine wpList_append_own_at _ rfl _ _ 85 rfl w.heap.size 22 ir (.slice none 0 0) 1 24 Try.underlying85 hir hr0 hr1 hr2 rfl (by decide) _ pq.length (pq.map Prod.fst) rfl (HQ.out.l.alloc _) ⟨wq.heap.size, 0, none⟩ 1 1 [.slice none 0 0] rfl rfl (cell_one_new _ _ _) (by simp [Value.oneCell']) (by unfold maxLen; omega) (by omega) (by have := HISQ.out; simp; omega) ?_; intro v5 w5 hown5 hgrow5 _ hat5; have H5 := Lib.hid (HQ.out.addNil rfl hown5 hgrow5); clear hown5 hgrow5 hat5))
              go_meet
              have hLe := HLE.out
              exact ⟨pq ++ [(.slice none 0 0, [])], by simp; omega, by simp; omega, H5, Lib.hid ⟨.inr (fun h => by subst hLe; simp), fun q hq => by
                rcases List.mem_append.1 hq with h1 | h1
                · exact HNN.out.2.2.2.1 q h1
                · rw [List.mem_singleton.1 h1]; exact Nat.zero_le _, by
                have := HNN.out.2.2.2.2
                rw [this, hLe, List.map_append, List.drop_eq_nil_of_le (by simp), List.take_of_length_le (by simp), List.take_left' (by simp), List.drop_left' (by simp)]; rfl⟩⟩
            · have hb : ((L : Int) == (pq.length : Int)) = false := beq_eq_false_iff_ne.2 (by omega)
              go_wp2_with fail
              go_meet
              exact ⟨pq, by omega, by omega, HQ, Lib.hid ⟨.inl hpj, HNN.out.2.2.2.1, HNN.out.2.2.2.2⟩⟩
          case rest =>
            obtain ⟨p2, hL2, hp2, H2, H3⟩ := hcut
            obtain ⟨A4, c4, rfl, -⟩ := own_form H2.out.l
            obtain ⟨g3, rfl⟩ : ∃ g3, A4 = some ⟨g3, 0, none⟩ := by
              rcases H2.out.l.2 with ⟨h1, h2⟩ | ⟨g3, cap, cur, h1, _⟩
              · omega
              · cases h1; exact ⟨g3, rfl⟩
            obtain ⟨A1, c1, e1, -⟩ := own_form (H2.out.il p2[L] (List.getElem_mem hL2))
            obtain ⟨pf, hpf⟩ : ∃ pf, pf = p2[L] := ⟨_, rfl⟩
            have hx := H2.out.l.cell hL2
            have HPF : Hid (pf = p2[L]) := Lib.hid hpf
            have hn30 : pf.2.length ≤ 30 := by
              have := H3.out.2.1 pf (by rw [hpf]; exact List.getElem_mem hL2)
              omega
            have HOW : Hid (wc.ownsRow w.heap.size 2 1 pf.1 pf.2.length (nums .i64 pf.2)) := Lib.hid (by rw [hpf]; exact H2.out.il p2[L] (List.getElem_mem hL2))
            rw [← hpf] at hx e1
            rw [e1] at hx
            have HE1 := Lib.hid e1
            obtain ⟨n1, hn1⟩ : ∃ n1, n1 = pf.2.length := ⟨_, rfl⟩
            rw [← hn1] at hx hn30 HE1
            have HN1 := Lib.hid hn1
            have HX := Lib.hid hx
            have HOX : Hid (wc.ownsRow w.heap.size 2 1 (.slice A1 n1 c1) n1 (nums .i64 pf.2)) := Lib.hid (by
              have := HOW.out
              rw [HE1.out, ← HN1.out] at this
              exact this)
            have L0 : (0 : Int) ≤ (L : Int) := by omega
            have hLi : (L : Int) < (p2.length : Int) := by omega
            clear e1 hpf hn1 hx
            go_wp2_with fail
            go_loopw [8] (fun i wr => ∃ p : Nat, p ≤ n1 ∧ i = .int .i64 p ∧ Hid (Below wc.heap.size wc wr ∧ ∀ q : Nat, q < p → rd pf.2 (q : Int) ≤ n2)) (fun i _ => 60 - (intOf i).toNat)
            case atStart => exact ⟨0, Nat.zero_le _, rfl, Lib.hid ⟨Below.refl _ _, fun q hq => absurd hq (Nat.not_lt_zero _)⟩⟩
            case round =>
              obtain ⟨p, hp, rfl, HB⟩ := hrel
              obtain ⟨wi, rfl⟩ : ∃ wi : World, wi = wr := ⟨_, rfl⟩
              have p0 : (0 : Int) ≤ (p : Int) := by omega
              have hx := (HB.out.1.cell (cell_size HX.out)).trans HX.out
              by_cases hltp : p < n1
              · have hltpi : (p : Int) < (n1 : Int) := by omega
                obtain ⟨g1, rfl⟩ : ∃ g1, A1 = some ⟨g1, 0, none⟩ := by
                  rcases HOX.out.2 with ⟨h1, h2⟩ | ⟨g1, cap, cur, h1, _⟩
                  · omega
                  · cases h1; exact ⟨g1, rfl⟩
                have HOI : Hid (wi.ownsRow w.heap.size 2 1 (.slice (some ⟨g1, 0, none⟩) n1 c1) n1 (nums .i64 pf.2)) := Lib.hid (own_below HOX.out HB.out.1)
                have hy := World.ownsRow.cellAt HOI.out p (by omega)
                have hpl : p < pf.2.length := by rw [← HN1.out]; exact hltp
                rw [show (nums .i64 pf.2)[p]? = some (.int .i64 (rd pf.2 (p : Int))) by simp [nums, rd, hpl]] at hy
                obtain ⟨y, hye⟩ : ∃ y, y = rd pf.2 (p : Int) := ⟨_, rfl⟩
                rw [← hye] at hy
                have HYE := Lib.hid hye
                have HPL := Lib.hid hpl
                clear hye hpl
                by_cases g : y ≤ n2
                · have gd : decide (y ≤ n2) = true := decide_eq_true g
                  have HG := Lib.hid g
                  clear g
                  go_wp2_with fail
                  refine ⟨⟨p + 1, by omega, by go_num, Lib.hid ⟨HB.out.1, fun q hq => ?_⟩⟩, by simp [intOf]; omega⟩
                  by_cases e : q = p
                  · subst e; rw [← HYE.out]; exact HG.out
                  · exact HB.out.2 q (by omega)
                · have gd : decide (y ≤ n2) = false := decide_eq_false g
                  have HG := Lib.hid g
                  have hpe : ((p : Int) == (n1 : Int)) = false := beq_eq_false_iff_ne.2 (by omega)
                  have fy := World.ownsRow.frozenAt HOI.out p
                  have HTI : Hid (TabAt w wi (.slice (some ⟨g3, 0, none⟩) p2.length c4) p2) := Lib.hid (H2.out.below HB.out.1)
                  have HSI : Hid (TabAt w (wi.setCell ⟨g1, p, none⟩ (.int .i64 n2)) (.slice (some ⟨g3, 0, none⟩) p2.length c4) (p2.set L (p2[L].1, p2[L].2.set p n2))) := Lib.hid (HTI.out.setIn hL2 (by rw [← HPF.out, HE1.out, HN1.out]) (by rw [← HPF.out]; exact HPL.out) n2)
                  have hxs : (wi.setCell ⟨g1, p, none⟩ (.int .i64 n2)).cell? ⟨g3, L, none⟩ = some (.slice (some ⟨g1, 0, none⟩) n1 c1) := by
                    have h1 := HSI.out.l
                    unfold OutL at h1
                    rw [List.length_set] at h1
                    have h2 := World.ownsRow.cellAt h1 L (by omega)
                    rw [h2, List.map_set]
                    simp only [List.getElem?_set_self, List.length_map, hL2]
                    rw [← HPF.out, HE1.out]
                  clear g
                  go_upto_region 18 with fail
                  go_region
                  go_wp2_with fail
                  go_roundw
                  case rel =>
                    have hyy : y = (p2[L].2)[p]'(by rw [← HPF.out]; exact HPL.out) := by
                      rw [HYE.out, rd_get pf.2 HPL.out]
                      congr 1
                      rw [HPF.out]
                    refine ⟨p2.set L (p2[L].1, p2[L].2.set p n2), y, false, L + 1, rfl, rfl, by go_num, by omega, Lib.hid ?_, Lib.hid (fun _ => ?_), Lib.hid (fun h => by cases h)⟩
                    · exact HSI.out.below (below_drew1 (Below.refl _ _))
                    · rw [hyy]
                      have hjl : p2.length ≤ j := by
                        rcases H3.out.1 with h | h
                        · exact h
                        · have h1 := h hL2
                          have h2 := HPL.out
                          rw [HPF.out] at h2
                          omega
                      exact line_step (by simpa [hL2] using HSI.out.below (below_drew1 (Below.refl _ _))) hL2 hjl H3.out.2.1 H3.out.2.2 (by rw [← HPF.out]; exact HPL.out) (fun q hq => by
                        have h1 := HB.out.2 q hq
                        rw [HPF.out, rd_get] at h1
                        exact h1) (by rw [← hyy]; have := HG.out; omega)
                  case measure => simp [intOf]; omega
              · have hpe : p = n1 := by omega
                have hb : ((p : Int) == (n1 : Int)) = true := beq_iff_eq.2 (by omega)
                have hnl : ¬ (p : Int) < (n1 : Int) := by omega
                have HPE := Lib.hid hpe
                have HTI : Hid (TabAt w wi (.slice (some ⟨g3, 0, none⟩) p2.length c4) p2) := Lib.hid (H2.out.below HB.out.1)
                have HOI : Hid (wi.ownsRow w.heap.size 2 1 (.slice A1 n1 c1) n1 (nums .i64 pf.2)) := Lib.hid (own_below HOX.out HB.out.1)
                have HISI : Hid (wi.heap.size ≥ w.heap.size) := Lib.hid HTI.out.b.size
                clear hpe
                go_wp2_with (first | (at_builtin; refine wpList_append_own_at _ rfl _ _ 22 rfl w.heap.size 2 ii (.int .i64 0) 1 8 Try.underlying22 hi hz0 hz1 hz2 rfl (by decide) (.slice A1 n1 c1) n1 (nums .i64 pf.2) rfl (HOI.out.alloc _) ⟨wi.heap.size, 0, none⟩ 1 1 [.int .i64 n2] rfl rfl (cell_one_new _ _ _) (by simp [Value.oneCell']) (by unfold maxLen; omega) (by omega) (by have := HISI.out; simp; omega) ?_; intro v5 w5 hown5 hgrow5 _ hat5; obtain ⟨A5, c5, rfl, -⟩ := own_form hown5; have HM5 : Hid (TabAt w (w5.setCell ⟨g3, L, none⟩ (.slice A5 (n1 + 1) c5)) (.slice (some ⟨g3, 0, none⟩) p2.length c4) (p2.set L (.slice A5 (n1 + 1) c5, p2[L].2 ++ [n2]))) := Lib.hid (HTI.out.addTo n2 hL2 rfl (by rw [← HPF.out, ← HN1.out]; exact hown5) (by rw [← HPF.out, HE1.out]; exact hgrow5) (by rw [← HPF.out, HE1.out]; exact hat5)); have L5 : Hid (OutL w5 w.heap.size (.slice (some ⟨g3, 0, none⟩) p2.length c4) p2) := Lib.hid ((HTI.out.l.alloc _).kept hgrow5 (own_types (HTI.out.l.alloc _) (HOI.out.alloc (.cells #[.int .i64 n2] 2)) (by decide))); have f5 := L5.out.free L; have x5 := L5.out.cell hL2; clear hown5 hgrow5 hat5))
                go_roundw
                case rel =>
                  refine ⟨p2.set L (.slice A5 (n1 + 1) c5, p2[L].2 ++ [n2]), n2, true, L + 1, rfl, rfl, by go_num, by omega, Lib.hid ?_, Lib.hid (fun h => by cases h), Lib.hid (fun _ => ?_)⟩
                  · exact HM5.out
                  · refine line_end hL2 H3.out.2.2 fun a ha => ?_
                    obtain ⟨q, hq, rfl⟩ := List.getElem_of_mem ha
                    have h1 := HB.out.2 q (by rw [HPE.out, HN1.out, HPF.out]; exact hq)
                    rw [HPF.out, rd_get _ hq] at h1
                    exact h1
                case measure => simp [intOf]; omega
        · go_wp2_with fail
          go_roundw
          case rel => exact ⟨j + 1, pq, by omega, by go_num, Lib.hid ⟨HQ.out, by rw [HP.out rfl]; exact HRE.out⟩⟩
          case measure => simp [intOf]; omega
    · have hnl : ¬ (j : Int) < (l.length : Int) := by omega
      go_wp2_with fail
      go_ret
      refine ⟨_, rfl, ps, HI.out.1, ?_⟩
      rw [HI.out.2, List.take_of_length_le (by omega)]
end Go.Proofs.Ytmfonbonfhngnaa.Hand

/- The reference's Tableau comes to the lines that are made of the row. -/
namespace Go.Proofs.Ytmfonbonfhngnaa.Hand
set_option linter.unusedVariables false
set_option linter.unusedSimpArgs false
open Go.RowKit Go.Maps Go.Proofs.YtmfonbonfhngnaaW.PrintWords Go.Proofs.YtmfonbonfhngnaaW.PrintLast Go.Proofs.YtmfonbonfhngnaaW.PrintMore Go.Proofs.Ytmfonbonfhngnaa.PrA
/-- made: a row of rows, no two of which share a block -/
theorem mat_SL {W : World} {base : Nat} {v : Value} {ps : List (Value × List Int)} (ho : OutL W base v ps) (hi : InnL W base ps) (ha : Apart ps) : Kd.S (Kd.slice 2 (Kd.int .i64)) 22 W base (fun _ => True) v (ps.map Prod.snd) := by
  obtain ⟨f, hf⟩ := Kd.reps_tag (d := Kd.slice 2 (Kd.int .i64)) (w := W) (base := base) (ok := fun k => True ∧ some k ≠ v.ownBlock) (xs := ps.map Prod.snd) (inner := ps.map Prod.fst) (fun j k => ∃ p, ps[j]? = some p ∧ p.1.ownBlock = some k)
    (fun i j k hi hj => by
      obtain ⟨p, hp, hp2⟩ := hi
      obtain ⟨q, hq, hq2⟩ := hj
      by_cases e : i = j
      · exact e
      · rcases ha i j p q e hp hq with h | h
        · rw [hp2] at h; cases h
        · exact absurd (hp2.trans hq2.symm) h)
    (fun j k hj => by
      obtain ⟨p, hp, hp2⟩ := hj
      refine ⟨trivial, fun e => ?_⟩
      rcases own_types (hi p (List.mem_of_getElem? hp)) ho (by decide) with h | h
      · rw [hp2] at h; cases h
      · exact h (by rw [hp2, e]))
    (by simp [Kd.slice])
    (fun j x hx => by
      rw [List.getElem?_map] at hx
      obtain ⟨p, hp, rfl⟩ := Option.map_eq_some_iff.1 hx
      have hlt := (List.getElem?_eq_some_iff.1 hp).1
      refine ⟨p.1, ?_, Kd.R_of_own (enc := Value.int .i64) (h1 := fun _ => rfl) (hi p (List.mem_of_getElem? hp)) (fun k hk => ⟨p, hp, hk⟩)⟩
      show ((ps.map Prod.fst).drop (j * 1)).take 1 = [p.1]
      rw [Nat.mul_one, List.drop_eq_getElem_cons (by simpa using hlt)]
      have e : ps[j] = p := (List.getElem?_eq_some_iff.1 hp).2
      simp [e])
  refine ⟨f, fun _ _ => trivial, ps.map Prod.fst, ?_, hf⟩
  rw [List.length_zipIdx, List.length_map]
  exact ho

def peaveyref03_Tableau.f (l0 : List Int) : Option (List (List Int)) := if l0.length ≤ 30 then some (tabF l0) else none
theorem peaveyref03_Tableau.calls (A0 : Option Addr) (c0 : Nat) (l0 : List Int) (r : List (List Int)) (w : World) (hr0 : Kd.C (Kd.int .i64) w A0 l0.length l0) (hc0 : l0.length ≤ c0) (h : peaveyref03_Tableau.f l0 = some r) :
    Calls Try.prog 72 #[.slice A0 l0.length c0] w fun e w' => ∃ v0_ : Value, e = .returned v0_ ∧ Kd.S (Kd.slice 2 (Kd.int .i64)) 22 w' w.heap.size (fun _ => True) v0_ r ∧ Below w.heap.size w w' := by
  unfold peaveyref03_Tableau.f at h
  split at h
  · rename_i hl
    obtain rfl := Option.some.inj h
    refine (tableau_any A0 c0 l0 w hr0 hc0 hl).mono ?_
    rintro e w' ⟨v, ps, rfl, hT, hp⟩
    refine ⟨v, rfl, ?_, hT.b⟩
    rw [← hp]
    exact mat_SL hT.l hT.il hT.al
  · cases h
end Go.Proofs.Ytmfonbonfhngnaa.Hand

/- less comes to the comparison of two fractions. -/
import Derived.Test.YtmgdidhhgdpobaaHTail
import Derived.Test.YtmgdidhhgdpobaaPrC1
import Derived.IntWalk
namespace Go.Proofs.Ytmgdidhhgdpobaa.Hand
set_option linter.unusedVariables false
set_option linter.unusedSimpArgs false
open Go.RowKit Go.Maps Go.Proofs.YtmgdidhhgdpobaaW.PrintWords Go.Proofs.YtmgdidhhgdpobaaW.PrintLast Go.Proofs.YtmgdidhhgdpobaaW.PrintMore Go.Proofs.Ytmgdidhhgdpobaa.PrC

/-- a block of two numbers -/
def Two (w : World) (b : Nat) (x y : Nat) : Prop := w.heap[b]? = some (.cells #[.int .i64 x, .int .i64 y] 27 (0, 0))
theorem two_cell {w : World} {b x y : Nat} (h : Two w b x y) : w.cell? ⟨b, 0, none⟩ = some (.int .i64 x) ∧ w.cell? ⟨b, 1, none⟩ = some (.int .i64 y) ∧ w.frozen? ⟨b, 0, none⟩ = false ∧ w.frozen? ⟨b, 1, none⟩ = false := by
  unfold Two at h
  simp [World.cell?, World.frozen?, h]
theorem ret_bool {a b : Bool} (h : a = b) : Ending.returned (.bool a) = .returned (.bool b) := by rw [h]
theorem two_below {w w' : World} {b x y n : Nat} (h : Two w b x y) (hb : Below n w w') (hn : b < n) : Two w' b x y := by unfold Two at *; rw [hb.block b hn]; exact h
theorem block_other {w : World} {b c o : Nat} {v : Value} (h : b ≠ c) : (w.setCell ⟨c, o, none⟩ v).heap[b]? = w.heap[b]? := heap_setCell_other w ⟨c, o, none⟩ b v h
theorem two_set {w : World} {b x y : Nat} (h : Two w b x y) (u v : Nat) : Two ((w.setCell ⟨b, 0, none⟩ (.int .i64 u)).setCell ⟨b, 1, none⟩ (.int .i64 v)) b u v :=
  heap_setCell_same _ b 1 _ _ _ (heap_setCell_same w b 0 _ _ _ h)
theorem two_other {w : World} {b c x y u v : Nat} (h : Two w b x y) (hbc : b ≠ c) : Two ((w.setCell ⟨c, 0, none⟩ (.int .i64 u)).setCell ⟨c, 1, none⟩ (.int .i64 v)) b x y := by
  unfold Two; rw [block_other hbc, block_other hbc]; exact h
theorem frac_any (x y : Int) (w : World) : Calls Try.prog 55 #[.int .i64 x, .int .i64 y] w fun e w' => e = .returned (.agg #[.int .i64 x, .int .i64 y]) ∧ Below w.heap.size w w' :=
  peaveylaw10_frac.calls x y x y w rfl
/-- the plain law: what is left, by turns -/
theorem turn (x y z u : Nat) (hy : 0 < y) (hu : 0 < u) : (x * u ≤ z * y) ↔ (x / y < z / u ∨ (x / y = z / u ∧ (x % y) * u ≤ (z % u) * y)) := by
  have e1 := Nat.div_add_mod x y
  have e2 := Nat.div_add_mod z u
  have l1 := Nat.mod_lt x hy
  have l2 := Nat.mod_lt z hu
  generalize x / y = a at *
  generalize z / u = b at *
  generalize x % y = r at *
  generalize z % u = s at *
  subst e1 e2
  have g1 : (y * a + r) * u = y * u * a + r * u := by rw [Nat.add_mul]; congr 1; rw [Nat.mul_right_comm]
  have g2 : (u * b + s) * y = y * u * b + s * y := by rw [Nat.add_mul]; congr 1; rw [Nat.mul_comm u b, Nat.mul_assoc, Nat.mul_comm, Nat.mul_comm u y]
  have k1 : r * u < y * u := Nat.mul_lt_mul_of_pos_right l1 hu
  have k2 : s * y < y * u := by rw [Nat.mul_comm y u]; exact Nat.mul_lt_mul_of_pos_right l2 hy
  rw [g1, g2]
  constructor
  · intro h
    rcases Nat.lt_trichotomy a b with c | c | c
    · exact .inl c
    · subst c; exact .inr ⟨rfl, by omega⟩
    · exfalso
      obtain ⟨d, rfl⟩ := Nat.exists_eq_add_of_lt c
      have : y * u * (b + d + 1) = y * u * b + y * u * d + y * u := by rw [Nat.mul_add, Nat.mul_add, Nat.mul_one]
      omega
  · rintro (c | ⟨rfl, c⟩)
    · obtain ⟨d, rfl⟩ := Nat.exists_eq_add_of_lt c
      have : y * u * (a + d + 1) = y * u * a + y * u * d + y * u := by rw [Nat.mul_add, Nat.mul_add, Nat.mul_one]
      omega
    · omega

set_option maxHeartbeats 4000000 in
set_option maxRecDepth 100000 in
theorem less_any (n d m e : Nat) (w : World) (hd : 0 < d) (he : 0 < e) (h1 : n ≤ 1125899906842624) (h2 : d ≤ 1125899906842624) (h3 : m ≤ 1125899906842624) (h4 : e ≤ 1125899906842624) :
    Calls Try.prog 45 #[.agg #[.int .i64 n, .int .i64 d], .agg #[.int .i64 m, .int .i64 e]] w fun r w' => r = .returned (.bool (decide (n * e ≤ m * d))) ∧ Below w.heap.size w w' := by
  obtain ⟨R, hR⟩ : ∃ R, R = decide (n * e ≤ m * d) := ⟨_, rfl⟩
  rw [← hR]
  have HR := Lib.hid hR
  clear hR
  go_enter Try.func45, Try.ntmps45
  go_wp2
  go_loopg [4] (d + e + 1) (fun kq v4 wr => ∃ x y z u : Nat, Hid (Two wr w.heap.size x y) ∧ Hid (Two wr (w.heap.size + 1) z u) ∧ 0 < y ∧ 0 < u ∧ x ≤ 1125899906842624 ∧ y ≤ 1125899906842624 ∧ z ≤ 1125899906842624 ∧ u ≤ 1125899906842624 ∧ Hid (R = decide (x * u ≤ z * y)) ∧ Hid (y + u < kq) ∧ Hid (Below w.heap.size w wr) ∧ ∃ b : Bool, v4 = .bool b)
  case atStart =>
    have t1 : Two (w.alloc (.cells #[.int .i64 n, .int .i64 d] 27)) w.heap.size n d := (MapKept.heap_alloc w _).1
    have t2 : Two ((w.alloc (.cells #[.int .i64 n, .int .i64 d] 27)).alloc (.cells #[.int .i64 m, .int .i64 e] 27)) (w.heap.size + 1) m e := by
      have := (MapKept.heap_alloc (w.alloc (.cells #[.int .i64 n, .int .i64 d] 27)) (.cells #[.int .i64 m, .int .i64 e] 27)).1
      have e : (w.alloc (.cells #[.int .i64 n, .int .i64 d] 27)).heap.size = w.heap.size + 1 := by simp
      rw [e] at this
      exact this
    exact ⟨n, d, m, e, two_below t1 ((Below.refl _ _).alloc (Nat.le_refl _) _) (by simp), t2, hd, he, h1, h2, h3, h4, HR.out, by show d + e < d + e + 1; omega, ((Below.refl _ _).alloc (Nat.le_refl _) _).alloc (by simp) _, false, rfl⟩
  case round =>
    obtain ⟨x, y, z, u, HX, HY, hy, hu, l1, l2, l3, l4, HQ, HK, HB, b, rfl⟩ := hrel
    obtain ⟨c1, c2, f1, f2⟩ := two_cell HX.out
    obtain ⟨c3, c4, f3, f4⟩ := two_cell HY.out
    have e0 : ((y : Int) == 0) = false := beq_eq_false_iff_ne.2 (by omega)
    have e1 : ((u : Int) == 0) = false := beq_eq_false_iff_ne.2 (by omega)
    have i1 : (0 : Int) < (y : Int) := by omega
    have i2 : (0 : Int) < (u : Int) := by omega
    have q1 : (x : Int) / (y : Int) = ((x / y : Nat) : Int) := by rw [← Int.natCast_ediv]
    have q2 : (z : Int) / (u : Int) = ((z / u : Nat) : Int) := by rw [← Int.natCast_ediv]
    have q5 := Nat.div_le_self x y
    have q6 := Nat.div_le_self z u
    have hturn := turn x y z u hy hu
    have p1 := Nat.mod_lt x hy
    have p2 := Nat.mod_lt z hu
    have r1 : (x : Int) % (y : Int) = ((x % y : Nat) : Int) := by rw [← Int.natCast_emod]
    have r2 : (z : Int) % (u : Int) = ((z % u : Nat) : Int) := by rw [← Int.natCast_emod]
    have QQ := Lib.hid (And.intro q1 q2)
    have RR := Lib.hid (And.intro r1 r2)
    clear q1 q2 r1 r2
    generalize x / y = a at *
    generalize z / u = b' at *
    generalize x % y = r at *
    generalize z % u = s at *
    have hturn' := Lib.hid hturn
    clear hturn
    by_cases hq : a = b'
    · have g0 : ((a : Int) != (b' : Int)) = false := bne_eq_false_iff_eq.2 (by omega)
      obtain ⟨q1, q2⟩ := QQ.out
      have HAB := Lib.hid hq
      clear hq
      go_wp2
      go_quiet (fail)
      clear q1 q2
      go_upto_region 4 with (fail)
      obtain ⟨r1, r2⟩ := RR.out
      by_cases hr0 : r = 0
      · have z0 : ((r : Int) == 0) = true := beq_iff_eq.2 (by omega)
        have HR0 := Lib.hid hr0
        clear hr0
        go_region
        clear r1 r2
        go_wp2
        go_ret
        exact ⟨ret_bool (a := true) (by
          have h := hturn'.out
          rw [HQ.out, decide_eq_true (h.2 (.inr ⟨HAB.out, by rw [HR0.out, Nat.zero_mul]; exact Nat.zero_le _⟩))]), ((below_drewN HB.out _).setCell (Nat.le_refl _) _).setCell (Nat.le_succ _) _⟩
      · have z0 : ((r : Int) == 0) = false := beq_eq_false_iff_ne.2 (by omega)
        by_cases hs0 : s = 0
        · have z1 : ((s : Int) == 0) = true := beq_iff_eq.2 (by omega)
          have HR0 := Lib.hid (And.intro hr0 hs0)
          clear hr0 hs0
          go_region
          clear r1 r2
          go_wp2
          go_ret
          exact ⟨ret_bool (a := false) (by
            have h := hturn'.out
            have hab := HAB.out
            have hrs := HR0.out
            rw [HQ.out, decide_eq_false (fun hc => by
              rcases h.1 hc with c | ⟨_, c⟩
              · omega
              · rw [hrs.2, Nat.zero_mul] at c
                have := Nat.mul_pos (show 0 < r by omega) hu
                omega)]), ((below_drewN HB.out _).setCell (Nat.le_refl _) _).setCell (Nat.le_succ _) _⟩
        · have z1 : ((s : Int) == 0) = false := beq_eq_false_iff_ne.2 (by omega)
          have HR0 := Lib.hid (And.intro hr0 hs0)
          clear hr0 hs0
          go_region
          clear r1 r2
          go_upto_region 9 with (fail)
          obtain ⟨W9, hW9⟩ : ∃ W, W = (((wr.drewN (nq + 1)).setCell ⟨w.heap.size, 0, none⟩ (.int .i64 r)).setCell ⟨w.heap.size + 1, 0, none⟩ (.int .i64 s)) := ⟨_, rfl⟩
          rw [← hW9]
          have hb9 : Below w.heap.size w W9 := by rw [hW9]; exact ((below_drewN HB.out _).setCell (Nat.le_refl _) _).setCell (Nat.le_succ _) _
          have t1 : Two W9 w.heap.size r y := by
            rw [hW9]
            unfold Two
            have h1 := heap_setCell_same (wr.drewN (nq + 1)) w.heap.size 0 #[.int .i64 x, .int .i64 y] 27 (.int .i64 r) HX.out
            rw [block_other (by omega)]
            exact h1
          have t2 : Two W9 (w.heap.size + 1) s u := by
            rw [hW9]
            unfold Two
            refine heap_setCell_same _ (w.heap.size + 1) 0 #[.int .i64 z, .int .i64 u] 27 (.int .i64 s) ?_
            rw [block_other (by omega)]
            exact HY.out
          have T1 := Lib.hid t1
          have T2 := Lib.hid t2
          have HB9 := Lib.hid hb9
          obtain ⟨c1', c2', f1', f2'⟩ := two_cell t1
          obtain ⟨c3', c4', f3', f4'⟩ := two_cell t2
          have d1 := kept_cell' c1'
          have d2 := kept_cell' c2'
          have d3 := kept_cell' c3'
          have d4 := kept_cell' c4'
          clear hW9 t1 t2 hb9 c1 c2 c3 c4 f1 f2 f3 f4 c1' c2' c3' c4' f1' f2' f3' f4'
          refine wp_region_kept_tail 10 W9.heap.size W9 (by kernel_rfl) (by kernel_rfl) (Below.refl _ _) ?_
          simp only [List.take_succ_cons, List.take_zero, List.drop_succ_cons, List.drop_zero]
          repeat (go_big_quiet_step (with_reducible exact kept_calls _ (Nat.le_refl _) (frac_any _ _ _)))
          refine wpQuiet_nil ?_
          rintro _ ⟨X, rfl⟩
          have g1 : Two X.1 w.heap.size r y := two_below T1.out X.2 (by have := cell_size (two_cell T1.out).1; simpa using this)
          have g2 : Two X.1 (w.heap.size + 1) s u := two_below T2.out X.2 (by have := cell_size (two_cell T2.out).1; simpa using this)
          have hbx := HB9.out.trans (X.2.mono HB9.out.size)
          obtain ⟨Y, hY⟩ : ∃ Y, Y = X.1 := ⟨_, rfl⟩
          rw [← hY] at g1 g2 hbx ⊢
          have G1 := Lib.hid g1
          have G2 := Lib.hid g2
          have HBX := Lib.hid hbx
          obtain ⟨k1, k2, k3, k4⟩ := two_cell g1
          obtain ⟨k5, k6, k7, k8⟩ := two_cell g2
          clear hY g1 g2 hbx d1 d2 d3 d4
          have hgk : ∃ gk', gk = gk' + 1 := ⟨gk - 1, by have := HK.out; omega⟩
          obtain ⟨gk', rfl⟩ := hgk
          go_wp2
          go_roundg gk'
          case measure => omega
          case rel =>
            refine ⟨u, s, y, r, ?_, ?_, by have := HR0.out; omega, by have := HR0.out; omega, l4, by omega, l2, by omega, ?_, ?_, ?_, b, rfl⟩
            · exact two_other (two_set G1.out u s) (by omega)
            · exact two_set (two_other G2.out (by omega)) y r
            · show R = decide (u * r ≤ y * s)
              have h := hturn'.out
              have hab := HAB.out
              rw [HQ.out]
              refine decide_eq_decide.2 ⟨fun hc => ?_, fun hc => ?_⟩
              · rcases h.1 hc with c | ⟨_, c⟩
                · omega
                · rw [Nat.mul_comm u r, Nat.mul_comm y s]; exact c
              · rw [Nat.mul_comm u r, Nat.mul_comm y s] at hc
                exact h.2 (.inr ⟨hab, hc⟩)
            · show s + r < gk'
              have := HK.out
              omega
            · exact (((HBX.out.setCell (Nat.le_refl _) _).setCell (Nat.le_refl _) _).setCell (Nat.le_succ _) _).setCell (Nat.le_succ _) _
    · have g0 : ((a : Int) != (b' : Int)) = true := by rw [bne_iff_ne]; omega
      obtain ⟨q1, q2⟩ := QQ.out
      have HAB := Lib.hid hq
      clear hq
      have hres : decide (a < b') = R := by
        have h := hturn'.out
        rw [HQ.out]
        have hab := HAB.out
        by_cases hlt : a < b'
        · rw [decide_eq_true hlt, decide_eq_true (h.2 (.inl hlt))]
        · rw [decide_eq_false hlt, decide_eq_false (fun hc => by rcases h.1 hc with c | c <;> omega)]
      have HRES := Lib.hid hres
      clear hres
      go_wp2
      go_quiet (fail)
      clear q1 q2
      go_wp2
      go_ret
      exact ⟨ret_bool HRES.out, below_drewN HB.out _⟩
/-- the numbers that are spoken of -/
def fitB (x y : Int) : Prop := 0 ≤ x ∧ x ≤ 1125899906842624 ∧ 0 < y ∧ y ≤ 1125899906842624
instance (x y : Int) : Decidable (fitB x y) := by unfold fitB; exact inferInstance
def peaveylaw10_less.f (a0_0 a0_1 a1_0 a1_1 : Int) : Option Bool := if fitB a0_0 a0_1 ∧ fitB a1_0 a1_1 then some (decide (a0_0 * a1_1 ≤ a1_0 * a0_1)) else none
theorem peaveylaw10_less.calls (a0_0 a0_1 a1_0 a1_1 : Int) (r : Bool) (w : World) (h : peaveylaw10_less.f a0_0 a0_1 a1_0 a1_1 = some r) :
    Calls Try.prog 45 #[.agg #[.int .i64 a0_0, .int .i64 a0_1], .agg #[.int .i64 a1_0, .int .i64 a1_1]] w fun e w' => e = .returned (.bool r) ∧ Below w.heap.size w w' := by
  unfold peaveylaw10_less.f at h
  split at h
  · rename_i g
    obtain ⟨⟨p1, p2, p3, p4⟩, q1, q2, q3, q4⟩ := g
    obtain ⟨x, rfl⟩ := Int.eq_ofNat_of_zero_le p1
    obtain ⟨y, rfl⟩ := Int.eq_ofNat_of_zero_le (show 0 ≤ a0_1 by omega)
    obtain ⟨z, rfl⟩ := Int.eq_ofNat_of_zero_le q1
    obtain ⟨u, rfl⟩ := Int.eq_ofNat_of_zero_le (show 0 ≤ a1_1 by omega)
    obtain rfl := Option.some.inj h
    have e : decide ((x : Int) * (u : Int) ≤ (z : Int) * (y : Int)) = decide (x * u ≤ z * y) := by
      rw [← Int.natCast_mul, ← Int.natCast_mul]; exact decide_eq_decide.2 ⟨fun h => by omega, fun h => by omega⟩
    rw [e]
    exact less_any x y z u w (by omega) (by omega) (by omega) (by omega) (by omega) (by omega)
  · cases h
end Go.Proofs.Ytmgdidhhgdpobaa.Hand

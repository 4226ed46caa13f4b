/- The law MarkNamed, along the ways that are gone. -/
import Derived.Test.YtbhcchhhpmlpmaaMB
import Derived.Test.YtbhcchhhpmlpmaaMC
import Derived.Test.YtbhcchhhpmlpmaaHLaw0
import Derived.Test.YtbhcchhhpmlpmaaHTail
import Derived.Test.YtbhcchhhpmlpmaaHNamB
import Derived.Test.YtbhcchhhpmlpmaaHList
namespace Go.Proofs.Ytbhcchhhpmlpmaa.Pnam
set_option linter.unusedVariables false
set_option linter.unusedSimpArgs false
open Go.RowKit Go.Maps Go.Proofs.Ytbhcchhhpmlpmaa.Hand Go.Proofs.YtbhcchhhpmlpmaaW.PrintWords Go.Proofs.YtbhcchhhpmlpmaaW.PrintLast Go.Proofs.YtbhcchhhpmlpmaaW.PrintMore Go.Proofs.Ytbhcchhhpmlpmaa.PrA Go.Proofs.Ytbhcchhhpmlpmaa.PrC Go.Proofs.Ytbhcchhhpmlpmaa.PrR Go.Proofs.Ytbhcchhhpmlpmaa.PrF

/-- an office in a box, with its marks -/
def OffAt2 (w : World) (b : Nat) (a0 a1 : Int) (A : Option Addr) (c : Nat) (l : List Int) : Prop := RegAt w b a0 a1 A c l ∧ Kd.C (Kd.int .i64) w A l.length l
theorem off2_below {w w' : World} {b : Nat} {a0 a1 : Int} {A : Option Addr} {c : Nat} {l : List Int} (h : OffAt2 w b a0 a1 A c l) (hb : Below w.heap.size w w') : OffAt2 w' b a0 a1 A c l :=
  ⟨reg_below h.1 hb (cell_size h.1.1), Kd.C_below h.2 hb⟩
theorem own_some {w : World} {base n : Nat} {e : TypeId} {size : Nat} {v : Value} {xs : List Value} (hn : 0 < n) (h : w.ownsRow base e size v n xs) :
    ∃ g cap cur, v = .slice (some ⟨g, 0, none⟩) n cap ∧ base ≤ g ∧ w.heap[g]? = some (.cells cur e (0, 0)) ∧ n ≤ cap ∧ cap ≤ maxLen ∧ cur.size = cap * size ∧ cur.toList.take (n * size) = xs := by
  rcases h.2 with ⟨_, h0⟩ | h
  · omega
  · exact h
/-- a store into a row of the call's own -/
theorem own_set {w : World} {base : Nat} {e : TypeId} {g cap : Nat} {xs : List Int} (h : w.ownsRow base e 1 (.slice (some ⟨g, 0, none⟩) xs.length cap) xs.length (nums .i64 xs)) {p : Nat} (hp : p < xs.length) (x : Int) :
    (w.setCell ⟨g, p, none⟩ (.int .i64 x)).ownsRow base e 1 (.slice (some ⟨g, 0, none⟩) xs.length cap) xs.length (nums .i64 (xs.set p x)) := by
  refine ⟨by simp [nums], .inr ?_⟩
  rcases h.2 with ⟨hv, _⟩ | ⟨g', cap', cur, hv, hg, hh, hc, hm, hs, ht⟩
  · cases hv
  · cases hv
    refine ⟨g, cap, cur.setIfInBounds p (.int .i64 x), rfl, hg, heap_setCell_same w g p cur e _ hh, hc, hm, by rw [Array.size_setIfInBounds]; exact hs, ?_⟩
    rw [Array.toList_setIfInBounds, List.take_set, ht]
    simp [nums, List.map_set]
theorem step2_list {P : Program} {md : Region.Mode} {S : World → Prop} {Q : Exit → Act → World → Prop} {l : List Oper} {i j : Nat} {o o2 : Oper} {fuel : Nat} {listed : Array Bool} {a : Act} {w : World} (hr : Region.ready md l.toArray listed = [i, j]) (hi : l[i]? = some o) (hj : l[j]? = some o2)
    (hw : Region.wanted o (yielded l.toArray a.tmps) = true) (hw2 : Region.wanted o2 (yielded l.toArray a.tmps) = true)
    (h : ∀ K : Act → World → Prop, (∀ a w, S w → wpAnyH P md l.toArray Q S fuel (listed.setIfInBounds i true) a w → K a w) → Oper.wp P o a w K Q)
    (h2 : ∀ K : Act → World → Prop, (∀ a w, S w → wpAnyH P md l.toArray Q S fuel (listed.setIfInBounds j true) a w → K a w) → Oper.wp P o2 a w K Q) : wpAnyH P md l.toArray Q S (fuel + 1) listed a w :=
  wpAnyH_ready hr (by simp) (AllReadyH.cons (by simpa using hi) (fun K hK => by rw [if_pos hw]; exact h K (fun a w hS hh => hK a w hS (fun _ => hh))) (AllReadyH.cons (by simpa using hj) (fun K hK => by rw [if_pos hw2]; exact h2 K (fun a w hS hh => hK a w hS (fun _ => hh))) AllReadyH.nil))
section
variable {P : Program} {md : Region.Mode} {S : World → Prop} {Q : Exit → Act → World → Prop}
theorem wp_region_last_list {l : List Oper} {k id : Nat} {a : Act} {w : World} (hk : l.length = k) (S : World → Prop) (ds : List Nat) (hm : P.follows .mixedOrders = true)
    (h : wpAnyLast P .any l.toArray Q S ds k (Array.replicate k false) a w.drew) : (Code.region id l.toArray true).wp P Q a w := by
  subst hk
  exact wp_region_last hm (by simpa using h)
theorem take_listL {l : List Oper} {ds : List Nat} {i : Nat} {oi : Oper} {v : Value} {fuel : Nat} {listed : Array Bool} {a : Act} {w : World} (hi : l[i]? = some oi)
    (hs : Region.noSelect l.toArray = true) (hf : Region.free md l.toArray listed i = true) (hr : (Region.ready md l.toArray listed).contains i = true)
    (hc : Region.closedB md l.toArray listed = true) (hl : Region.lastB md l.toArray listed ds i = true) (hQ : ∀ c a w, Q (.panic c) (a.put oi.dst v) w → Q (.panic c) a w)
    (hw : Region.wanted oi (yielded l.toArray a.tmps) = true) (hy : ∀ w, S w → (execOp a.eval oi).run P w = .ok (.value v) w) (hS : S w)
    (h : wpAnyLast P md l.toArray Q S ds fuel (listed.setIfInBounds i true) (a.put oi.dst v) w) : wpAnyLast P md l.toArray Q S ds (fuel + 1) listed a w :=
  wpAnyLast_take (by simpa using hi) hs hf hr hc hl hQ (Or.inl ⟨hw, hy⟩) hS h
theorem step_listL {l : List Oper} {ds : List Nat} {i : Nat} {o : Oper} {fuel : Nat} {listed : Array Bool} {a : Act} {w : World} (hr : Region.ready md l.toArray listed = [i]) (hi : l[i]? = some o) (hd : i ∉ ds) (hw : Region.wanted o (yielded l.toArray a.tmps) = true)
    (h : ∀ K : Act → World → Prop, (∀ a w, S w → wpAnyLast P md l.toArray Q S ds fuel (listed.setIfInBounds i true) a w → K a w) → Oper.wp P o a w K Q) : wpAnyLast P md l.toArray Q S ds (fuel + 1) listed a w :=
  wpAnyLast_ready hr (by simp) (AllReadyL.cons (by simpa using hi) hd (fun K hK => by rw [if_pos hw]; exact h K (fun a w hS hh => hK a w hS (fun _ => hh))) AllReadyL.nil)
theorem step_listI {l : List Oper} {ds : List Nat} {i : Nat} {o : Oper} {fuel : Nat} {listed : Array Bool} {a : Act} {w : World} (hr : Region.ready md l.toArray listed = [i]) (hi : l[i]? = some o) (hd : i ∉ ds)
    (h : ∀ K : Act → World → Prop, (∀ a w, S w → wpAnyLast P md l.toArray Q S ds fuel (listed.setIfInBounds i true) a w → K a w) → if Region.wanted o (yielded l.toArray a.tmps) = true then Oper.wp P o a w K Q else K (a.put o.dst undef) w) : wpAnyLast P md l.toArray Q S ds (fuel + 1) listed a w :=
  wpAnyLast_ready hr (by simp) (AllReadyL.cons (by simpa using hi) hd (fun K hK => h K (fun a w hS hh => hK a w hS (fun _ => hh))) AllReadyL.nil)
theorem last_listL {l : List Oper} {ds : List Nat} {i : Nat} {o : Oper} {fuel : Nat} {listed : Array Bool} {a : Act} {w : World} (hr : Region.ready md l.toArray listed = [i]) (hi : l[i]? = some o) (hd : i ∈ ds) (hw : Region.wanted o (yielded l.toArray a.tmps) = true)
    (h : ∀ K : Act → World → Prop, (∀ a w, wpAnyLast P md l.toArray Q S ds fuel (listed.setIfInBounds i true) a w → K a w) → Oper.wp P o a w K Q) : wpAnyLast P md l.toArray Q S ds (fuel + 1) listed a w :=
  wpAnyLast_ready hr (by simp) (AllReadyL.cons_last (by simpa using hi) hd (fun K hK => by rw [if_pos hw]; exact h K (fun a w hh => hK a w hh)) AllReadyL.nil)
end
theorem idN_succ (k : Nat) : idN (k + 1) = idN k ++ [(k : Int)] := by simp [idN, List.range_succ]

set_option maxHeartbeats 4000000 in
set_option maxRecDepth 100000 in
theorem nmd_good (a0 a1 : Int) (A : Option Addr) (c : Nat) (l : List Int) (worn owner : Int) (As : Option Addr) (cs : Nat) (sw : List Int) (w : World) (hr : Kd.C (Kd.int .i64) w A l.length l) (hc : l.length ≤ c)
    (hsr : Kd.C (Kd.int .u8) w As sw.length sw) (hsc : sw.length ≤ cs) (hsl : sw.length ≤ 20) (hsb : ∀ x ∈ sw, 0 ≤ x ∧ x ≤ 255) (ho : officeN a0 a1 l = 0) (h8 : a0 ≤ 8) (s : Nat) (hs : a0 = (s : Int))
    (nm : List Int) (hnm : nm = swN s sw sw.length)
    (wn : Nat) (hwn : Int.tmod worn (allN a0 + 1) = (wn : Int)) (hwl : wn < 1024) (hw16 : 0 ≤ worn ∧ worn ≤ 65535) (hm8 : 0 ≤ owner ∧ owner ≤ 255)
    (p f g : List Int) (m : Int) (hp : mark_Owners.f a0 a1 l (wn : Int) = some (p, 0)) (hq : mark_Owners.f a0 a1 (namL s nm l l.length) (namTo (mk nm) wn s : Int) = some (p, 0)) (hf : mark_Free.f a0 a1 l = some (f, 0)) (hg : mark_Free.f a0 a1 (namL s nm l l.length) = some (g, 0)) (hfg : g.length = f.length)
    (hm : mark_Margin.f a0 a1 l = some (m, 0)) (hn : mark_Margin.f a0 a1 (namL s nm l l.length) = some (m, 0)) (k0 : Nat) (hpq : peaveylaw01_Ints.f k0 p p = some true)
    (ht : l.length ≠ 0 → ∃ (i : Nat) (t u v e z : Int), Int.tmod owner (l.length : Int) = (i : Int) ∧ mark_Told.f a0 a1 l (i : Int) = some (t, 0) ∧ mark_Told.f a0 a1 (namL s nm l l.length) (i : Int) = some (t, 0) ∧ mark_Keep.f a0 a1 l (i : Int) = some (u, e) ∧ mark_Keep.f a0 a1 (namL s nm l l.length) (i : Int) = some (v, e) ∧ (e = 0 ∨ e = 17) ∧ peaveyref01_Size.f k0 u = some z ∧ peaveyref01_Size.f k0 v = some z) :
    Calls Try.prog 15 #[.agg #[.int .i64 a0, .int .i64 a1, .slice A l.length c], .int .u16 worn, .int .u8 owner, .slice As sw.length cs] w
      fun e w' => e = .returned (.bool true) ∧ Below w.heap.size w w' := by
  have hu := Try.underlying24
  have hz := office_zero ho
  have hal := allN_lt hz.2.1
  have hap := allN_pos hz.1
  have z1 := hz.1
  have z2 := hz.2.1
  have z3 := hz.2.2.1
  have z4 := hz.2.2.2.1
  obtain ⟨W, hW⟩ : ∃ W, W = w.alloc (.cells #[.int .i64 a0, .int .i64 a1, .slice A l.length c] 24) := ⟨_, rfl⟩
  have hbl : Below w.heap.size w W := by rw [hW]; exact (Below.refl w.heap.size w).alloc (Nat.le_refl _) _
  have HX := Lib.hid (show OffAt2 W w.heap.size a0 a1 A c l from ⟨by rw [hW]; refine ⟨?_, ?_, ?_⟩ <;> simp [go_sem], Kd.C_below hr hbl⟩)
  have HB := Lib.hid hbl
  have HSR := Lib.hid hsr
  have hF := fine_is a0 a1 l (Nat.le_refl 20)
  rw [decide_eq_true ho] at hF
  have HF := Lib.hid hF
  have HZ := Lib.hid ho
  have HP := Lib.hid hp
  have HQ := Lib.hid hq
  have HFF := Lib.hid hf
  have HG := Lib.hid hg
  have HM := Lib.hid hm
  have HN := Lib.hid hn
  have HPQ := Lib.hid hpq
  have HT := Lib.hid ht
  have HFG := Lib.hid hfg
  have HWN := Lib.hid (And.intro hwn hwl)
  clear hp hq hf hg hm hn hpq ht hfg hwn hwl
  have HSB := Lib.hid hsb
  have HNM := Lib.hid hnm
  have HS := Lib.hid hs
  have n8 : ¬ 8 < a0 := by omega
  have n20 : ¬ 20 < (sw.length : Int) := by omega
  have q0 := HX.out.1.1
  have q1 := HX.out.1.2.1
  have q2 := HX.out.1.2.2
  rw [hW] at q0 q1 q2
  clear hbl hr ho hF hsr hsb hnm hz hs
  go_enter Try.func15, Try.ntmps15
  go_wp2_with fail
  rw [← hW]
  clear hW q0 q1 q2
  refine (peaveylaw01_fine.calls 20 a0 a1 A c l true W HX.out.2 hc HF.out).mono ?_
  rintro e w1 ⟨rfl, hw⟩
  have HB1 := Lib.hid (HB.out.trans (hw.mono HB.out.size))
  have HX1 := Lib.hid (off2_below HX.out hw)
  have q0 := HX1.out.1.1
  clear hw HX HB HF
  go_wp2_with fail
  clear q0
  -- the names
  go_loopw [9, 10] (fun v j wr => ∃ k : Nat, k ≤ s ∧ j = .int .i64 k ∧ Hid (wr.ownsRow w1.heap.size 3 1 v k (nums .i64 (idN k)) ∧ Below w1.heap.size w1 wr)) (fun _ j _ => 60 - (intOf j).toNat)
  case atStart => exact ⟨0, Nat.zero_le _, rfl, Lib.hid ⟨⟨rfl, .inl ⟨rfl, rfl⟩⟩, Below.refl _ _⟩⟩
  case round =>
    obtain ⟨k, hk, rfl, HI⟩ := hrel
    have HX2 := Lib.hid (off2_below HX1.out HI.out.2)
    have q0 := HX2.out.1.1
    have hlen : (idN k).length = k := by simp [idN]
    by_cases hlt : k < s
    · have hlt' : (k : Int) < a0 := by have := HS.out; omega
      have HO4 : Hid (wr.ownsRow w1.heap.size 3 1 u9 (idN k).length (nums .i64 (idN k))) := Lib.hid (by rw [hlen]; exact HI.out.1)
      go_wp2_with (first | (at_builtin; refine print_append_num (w0 := w1) w1.heap.size rfl (.tmp 54) (.tmp 56) 22 3 .i64 8 rfl Try.underlying22 infoInt (by decide) u9 (idN k) (k : Int) rfl rfl HO4.out HI.out.2 HI.out.2.size (by omega) ?_; intro v5 w5 hown5 hb5 hg5 _; have H5 := Lib.hid (And.intro hown5 hb5); clear hown5 hb5 hg5))
      go_roundw
      case rel => exact ⟨k + 1, by omega, by go_num, Lib.hid ⟨by have h := H5.out.1; rw [idN_succ]; rw [List.length_append, hlen] at h; exact h, H5.out.2⟩⟩
      case measure => simp [intOf]; omega
    · have hnl : ¬ ((k : Int) < a0) := by have := HS.out; omega
      have hke : k = s := by omega
      have HN0 : Hid (wr.ownsRow w1.heap.size 3 1 u9 s (nums .i64 (swN s sw 0)) ∧ Below w1.heap.size w1 wr) := Lib.hid (by rw [hke] at HI; exact HI.out)
      clear hke hlen HI
      have HS1 : Hid (1 ≤ s) := Lib.hid (by have := HS.out; omega)
      obtain ⟨ng, ncap, ncur, hv9, hng, hnh, -⟩ := own_some (show 0 < s from HS1.out) HN0.out.1
      cases hv9
      have HNG := Lib.hid hng
      clear hng hnh ncur
      go_wp2_with fail
      clear q0
      -- the swaps
      go_loopw [11, 12, 13] (fun j _ _ wt => ∃ k : Nat, k ≤ sw.length ∧ j = .int .i64 k ∧ Hid (wt.ownsRow w1.heap.size 3 1 (.slice (some ⟨ng, 0, none⟩) s ncap) s (nums .i64 (swN s sw k)) ∧ Below w1.heap.size w1 wt)) (fun j _ _ _ => 60 - (intOf j).toNat)
      case atStart => exact ⟨0, Nat.zero_le _, rfl, HN0⟩
      case round =>
        obtain ⟨k, hk, rfl, HI⟩ := hrel
        have HXk := Lib.hid (off2_below HX1.out HI.out.2)
        by_cases hlk : k < sw.length
        · have hlk' : (k : Int) < (sw.length : Int) := by omega
          have p0 : (0 : Int) ≤ (k : Int) := by omega
          obtain ⟨ad, rfl, hx⟩ := Kd.at_int HSR.out (k : Int) p0 hlk'
          rw [Int.toNat_natCast] at hx
          replace hx := (HB1.out.trans (HI.out.2.mono HB1.out.size)).cell (cell_size hx) |>.trans hx
          obtain ⟨x, hxe⟩ : ∃ x, x = rd sw (k : Int) := ⟨_, rfl⟩
          have hxb : 0 ≤ x ∧ x ≤ 255 := by
            rw [hxe]
            have : rd sw (k : Int) = sw[k] := by simp [rd, hlk]
            rw [this]; exact HSB.out _ (List.getElem_mem hlk)
          rw [← hxe] at hx
          have HXE := Lib.hid hxe
          clear hxe
          have q0 := HXk.out.1.1
          obtain ⟨ka, hka⟩ : ∃ ka, ka = k % s := ⟨_, rfl⟩
          obtain ⟨kb, hkb⟩ : ∃ kb, kb = x.toNat % s := ⟨_, rfl⟩
          have m1 : Int.tmod (k : Int) a0 = (ka : Int) := by rw [HS.out, hka]; exact tmod_nat' HS1.out
          have m2 : Int.tmod x a0 = (kb : Int) := by
            rw [HS.out, hkb, show x = ((x.toNat : Nat) : Int) by omega]; rw [tmod_nat' HS1.out]; simp
          have HKA : Hid (ka = k % s ∧ ka < s) := Lib.hid ⟨hka, by rw [hka]; exact Nat.mod_lt _ HS1.out⟩
          have HKB : Hid (kb = x.toNat % s ∧ kb < s) := Lib.hid ⟨hkb, by rw [hkb]; exact Nat.mod_lt _ HS1.out⟩
          clear hka hkb
          have a00 : ¬ (a0 = 0) := by omega
          have wx : IntKind.i64.wrap x = x := IntWalk.i64_in _ (by omega)
          go_wp2_with fail
          have k0 := kept_cell' q0
          have kx := kept_cell' hx
          clear q0 hx
          refine wp_region_kept wr.heap.size wr (by kernel_rfl) (by kernel_rfl) (Below.refl _ _) ?_
          repeat (go_big_quiet_step (fail))
          refine wpQuiet_nil ?_
          rintro _ ⟨X, rfl⟩
          obtain ⟨w3, hw3⟩ : ∃ w3, w3 = X.1 := ⟨_, rfl⟩
          have hX := X.2
          rw [← hw3] at hX ⊢
          have HO3 := Lib.hid (pw_own_below HI.out.1 hX)
          have HB3 := Lib.hid (HI.out.2.trans (hX.mono HI.out.2.size))
          clear hw3 hX k0 kx X
          have hkal : ka < s := HKA.out.2
          have hkbl : kb < s := HKB.out.2
          obtain ⟨nk, hnk⟩ : ∃ nk, nk = swN s sw k := ⟨_, rfl⟩
          have HSW : Hid (swN s sw (k + 1) = swapN nk ka kb) := Lib.hid (by rw [hnk, HKA.out.1, HKB.out.1, HXE.out]; rfl)
          have hnl : nk.length = s := by rw [hnk]; exact (swN_ok HS1.out (by have := HS.out; omega) sw k).len
          rw [← hnk] at HO3
          have HO3' : Hid (w3.ownsRow w1.heap.size 3 1 (.slice (some ⟨ng, 0, none⟩) nk.length ncap) nk.length (nums .i64 nk)) := Lib.hid (by rw [hnl]; exact HO3.out)
          obtain ⟨va, hva⟩ : ∃ v, v = rd nk (ka : Int) := ⟨_, rfl⟩
          obtain ⟨vb, hvb⟩ : ∃ v, v = rd nk (kb : Int) := ⟨_, rfl⟩
          obtain ⟨ao, cap', hv', hpc, hnn, hrd⟩ := own_out HO3'.out
          cases hv'
          obtain ⟨ad2, e2, hy⟩ := hrd.2.2 (by omega)
          cases e2
          have ca := hy ka (by omega)
          have cb := hy kb (by omega)
          rw [show nk.getD ka 0 = va by rw [hva]; simp [rd], add_plain] at ca
          rw [show nk.getD kb 0 = vb by rw [hvb]; simp [rd], add_plain] at cb
          obtain ⟨g', cap', cur, hv', hg', hh', -⟩ := own_some (by omega) HO3'.out
          cases hv'
          have fa : w3.frozen? ⟨ng, ka, none⟩ = false := frozen_of_row w3 ng ka _ _ hh'
          have fb0 : w3.frozen? ⟨ng, kb, none⟩ = false := frozen_of_row w3 ng kb _ _ hh'
          have HVA := Lib.hid hva
          have HVB := Lib.hid hvb
          have HNL := Lib.hid hnl
          clear hva hvb hy hrd hnn hnk hh' hg' cur m1 m2 wx a00
          have ha1 : (ka : Int) < (s : Int) := by omega
          have hb1 : (kb : Int) < (s : Int) := by omega
          have ha0 : (0 : Int) ≤ (ka : Int) := by omega
          have hb0 : (0 : Int) ≤ (kb : Int) := by omega
          clear hnl
          go_upto_region 12 with fail
          have HEND : Hid (∀ wz, wz = ((w3.setCell ⟨ng, ka, none⟩ (.int .i64 vb)).setCell ⟨ng, kb, none⟩ (.int .i64 va)).drew → wz.ownsRow w1.heap.size 3 1 (.slice (some ⟨ng, 0, none⟩) s ncap) s (nums .i64 (swN s sw (k + 1))) ∧ Below w1.heap.size w1 wz) := Lib.hid (by
            intro wz hwz
            have h1 := own_set HO3'.out (p := ka) (by rw [HNL.out]; exact HKA.out.2) vb
            have h1' : (w3.setCell ⟨ng, ka, none⟩ (.int .i64 vb)).ownsRow w1.heap.size 3 1 (.slice (some ⟨ng, 0, none⟩) (nk.set ka vb).length ncap) (nk.set ka vb).length (nums .i64 (nk.set ka vb)) := by
              rw [List.length_set]; exact h1
            have h2 := own_set h1' (p := kb) (by rw [List.length_set, HNL.out]; exact HKB.out.2) va
            rw [List.length_set, HNL.out] at h2
            rw [HSW.out, swapN, ← HVA.out, ← HVB.out, hwz]
            exact ⟨h2, ((HB3.out.setCell (p := ⟨ng, ka, none⟩) HNG.out _).setCell (p := ⟨ng, kb, none⟩) HNG.out _).drew⟩)
          refine wp_region_held_list (k := 16) rfl (fun _ => True) (by kernel_rfl) ?_
          refine take_list (i := 0) (v := .slice (some ⟨ng, 0, none⟩) s ncap) rfl (by kernel_rfl) (by kernel_rfl) (by kernel_rfl) (fun _ _ _ h => h) (by rfl) (by intro w' hw'; go_simp) trivial ?_
          refine take_list (i := 1) (v := .int .i64 ka) rfl (by kernel_rfl) (by kernel_rfl) (by kernel_rfl) (fun _ _ _ h => h) (by rfl) (by intro w' hw'; go_simp) trivial ?_
          refine take_list (i := 2) (v := .slice (some ⟨ng, 0, none⟩) s ncap) rfl (by kernel_rfl) (by kernel_rfl) (by kernel_rfl) (fun _ _ _ h => h) (by rfl) (by intro w' hw'; go_simp) trivial ?_
          refine take_list (i := 3) (v := .int .i64 kb) rfl (by kernel_rfl) (by kernel_rfl) (by kernel_rfl) (fun _ _ _ h => h) (by rfl) (by intro w' hw'; go_simp) trivial ?_
          refine take_list (i := 4) (v := .slice (some ⟨ng, 0, none⟩) s ncap) rfl (by kernel_rfl) (by kernel_rfl) (by kernel_rfl) (fun _ _ _ h => h) (by rfl) (by intro w' hw'; go_simp) trivial ?_
          refine take_list (i := 5) (v := .int .i64 kb) rfl (by kernel_rfl) (by kernel_rfl) (by kernel_rfl) (fun _ _ _ h => h) (by rfl) (by intro w' hw'; go_simp) trivial ?_
          refine take_list (i := 8) (v := .slice (some ⟨ng, 0, none⟩) s ncap) rfl (by kernel_rfl) (by kernel_rfl) (by kernel_rfl) (fun _ _ _ h => h) (by rfl) (by intro w' hw'; go_simp) trivial ?_
          refine take_list (i := 9) (v := .int .i64 ka) rfl (by kernel_rfl) (by kernel_rfl) (by kernel_rfl) (fun _ _ _ h => h) (by rfl) (by intro w' hw'; go_simp) trivial ?_
          refine take_list (i := 6) (v := .pointer (some ⟨ng, kb, none⟩)) rfl (by kernel_rfl) (by kernel_rfl) (by kernel_rfl) (fun _ _ _ h => h) (by rfl) (by intro w' hw'; go_simp) trivial ?_
          refine take_list (i := 10) (v := .pointer (some ⟨ng, ka, none⟩)) rfl (by kernel_rfl) (by kernel_rfl) (by kernel_rfl) (fun _ _ _ h => h) (by rfl) (by intro w' hw'; go_simp) trivial ?_
          obtain ⟨vv, cb3⟩ : ∃ v, (w3.setCell ⟨ng, ka, none⟩ (.int .i64 vb)).cell? ⟨ng, kb, none⟩ = some v := by
            by_cases e : ka = kb
            · subst e; exact ⟨_, World.cell?_setCell_same' _ _ _ (by rw [ca]; rfl)⟩
            · exact ⟨_, by rw [World.cell?_setCell_other _ _ _ _ (by simp [e, Ne.symm e])]; exact cb⟩
          have ca2 : w3.drew.cell? ⟨ng, ka, none⟩ = some (.int .i64 va) := ca
          have cb2 : w3.drew.cell? ⟨ng, kb, none⟩ = some (.int .i64 vb) := cb
          have fb : w3.frozen? ⟨ng, kb, none⟩ = false := fb0
          have fa2 : w3.drew.frozen? ⟨ng, ka, none⟩ = false := fa
          (try simp only [Act.put, List.setIfInBounds_toArray, List.set_cons_zero, List.set_cons_succ])
          refine step2_list (i := 7) (j := 11) (by kernel_rfl) rfl rfl (by rfl) (by rfl) (fun K hK => ?_) (fun K hK => ?_)
          · go_simp
            refine hK _ _ trivial ?_
            clear hK K
            (try simp only [Act.put, List.setIfInBounds_toArray, List.set_cons_zero, List.set_cons_succ])
            refine step_list (i := 11) (by kernel_rfl) rfl (by rfl) (fun K hK => ?_)
            go_simp
            refine hK _ _ trivial ?_
            clear hK K
            (try simp only [Act.put, List.setIfInBounds_toArray, List.set_cons_zero, List.set_cons_succ])
            refine step_list (i := 12) (by kernel_rfl) rfl (by rfl) (fun K hK => ?_)
            go_simp
            refine hK _ _ trivial ?_
            clear hK K
            (try simp only [Act.put, List.setIfInBounds_toArray, List.set_cons_zero, List.set_cons_succ])
            refine step_list (i := 13) (by kernel_rfl) rfl (by rfl) (fun K hK => ?_)
            go_simp
            refine hK _ _ trivial ?_
            clear hK K
            have fb3 : (w3.setCell ⟨ng, ka, none⟩ (.int .i64 vb)).drew.frozen? ⟨ng, kb, none⟩ = false := (World.frozen?_setCell w3 _ _ _).trans fb
            (try simp only [Act.put, List.setIfInBounds_toArray, List.set_cons_zero, List.set_cons_succ])
            refine step_list (i := 14) (by kernel_rfl) rfl (by rfl) (fun K hK => ?_)
            go_simp
            refine hK _ _ trivial ?_
            clear hK K
            (try simp only [Act.put, List.setIfInBounds_toArray, List.set_cons_zero, List.set_cons_succ])
            refine step_list (i := 15) (by kernel_rfl) rfl (by rfl) (fun K hK => ?_)
            go_simp
            refine hK _ _ trivial ?_
            clear hK K
            (try simp only [Act.put, List.setIfInBounds_toArray, List.set_cons_zero, List.set_cons_succ])
            refine wpAnyH_done (by kernel_rfl) ?_ _
            obtain ⟨wz, hwz⟩ : ∃ wz, wz = ((w3.setCell ⟨ng, ka, none⟩ (.int .i64 vb)).setCell ⟨ng, kb, none⟩ (.int .i64 va)).drew := ⟨_, rfl⟩
            have HZZ := Lib.hid (HEND.out wz hwz)
            rw [← hwz]
            clear hwz
            go_wp2
            go_roundw
            case rel => exact ⟨k + 1, by omega, by go_num, HZZ⟩
            case measure => simp [intOf]; omega
          · go_simp
            refine hK _ _ trivial ?_
            clear hK K
            (try simp only [Act.put, List.setIfInBounds_toArray, List.set_cons_zero, List.set_cons_succ])
            refine step_list (i := 7) (by kernel_rfl) rfl (by rfl) (fun K hK => ?_)
            go_simp
            refine hK _ _ trivial ?_
            clear hK K
            (try simp only [Act.put, List.setIfInBounds_toArray, List.set_cons_zero, List.set_cons_succ])
            refine step_list (i := 12) (by kernel_rfl) rfl (by rfl) (fun K hK => ?_)
            go_simp
            refine hK _ _ trivial ?_
            clear hK K
            (try simp only [Act.put, List.setIfInBounds_toArray, List.set_cons_zero, List.set_cons_succ])
            refine step_list (i := 13) (by kernel_rfl) rfl (by rfl) (fun K hK => ?_)
            go_simp
            refine hK _ _ trivial ?_
            clear hK K
            have fb3 : (w3.setCell ⟨ng, ka, none⟩ (.int .i64 vb)).drew.frozen? ⟨ng, kb, none⟩ = false := (World.frozen?_setCell w3 _ _ _).trans fb
            (try simp only [Act.put, List.setIfInBounds_toArray, List.set_cons_zero, List.set_cons_succ])
            refine step_list (i := 14) (by kernel_rfl) rfl (by rfl) (fun K hK => ?_)
            go_simp
            refine hK _ _ trivial ?_
            clear hK K
            (try simp only [Act.put, List.setIfInBounds_toArray, List.set_cons_zero, List.set_cons_succ])
            refine step_list (i := 15) (by kernel_rfl) rfl (by rfl) (fun K hK => ?_)
            go_simp
            refine hK _ _ trivial ?_
            clear hK K
            (try simp only [Act.put, List.setIfInBounds_toArray, List.set_cons_zero, List.set_cons_succ])
            refine wpAnyH_done (by kernel_rfl) ?_ _
            obtain ⟨wz, hwz⟩ : ∃ wz, wz = ((w3.setCell ⟨ng, ka, none⟩ (.int .i64 vb)).setCell ⟨ng, kb, none⟩ (.int .i64 va)).drew := ⟨_, rfl⟩
            have HZZ := Lib.hid (HEND.out wz hwz)
            rw [← hwz]
            clear hwz
            go_wp2
            go_roundw
            case rel => exact ⟨k + 1, by omega, by go_num, HZZ⟩
            case measure => simp [intOf]; omega
        · have hnlk : ¬ ((k : Int) < (sw.length : Int)) := by omega
          have hke : k = sw.length := by omega
          have HN1 : Hid (wr.ownsRow w1.heap.size 3 1 (.slice (some ⟨ng, 0, none⟩) s ncap) s (nums .i64 nm) ∧ Below w1.heap.size w1 wr) := Lib.hid (by rw [hke, ← HNM.out] at HI; exact HI.out)
          clear hke HI HN0
          obtain ⟨wq, rfl⟩ : ∃ wq, wq = wr := ⟨_, rfl⟩
          have q0 := HXk.out.1.1
          have q1 := HXk.out.1.2.1
          have q2 := HXk.out.1.2.2
          go_wp2_with fail
          obtain ⟨B, hB⟩ : ∃ B, B = wq.heap.size := ⟨_, rfl⟩
          obtain ⟨W3, hW3⟩ : ∃ W3, W3 = wq.alloc (.cells #[.int .i64 a0, .int .i64 a1, .slice none 0 0] 24) := ⟨_, rfl⟩
          have hb3 : Below B wq W3 := by rw [hW3, hB]; exact (Below.refl _ _).alloc (Nat.le_refl _) _
          have HY0 := Lib.hid (show RegAt W3 B a0 a1 none 0 [] from by rw [hW3, hB]; refine ⟨?_, ?_, ?_⟩ <;> simp [go_sem])
          have HB3 := Lib.hid hb3
          have HBB := Lib.hid hB
          have HFZ : Hid (W3.frozen? ⟨B, 2, none⟩ = false) := Lib.hid (by rw [hW3, hB]; simp [go_sem])
          rw [← hW3, ← hB]
          clear hW3 hb3 hB q0 q1 q2
          go_loopw [15] (fun j wt => ∃ (k : Nat) (A' : Option Addr) (c' : Nat), k ≤ l.length ∧ j = .int .i64 k ∧ Hid (RegAt wt B a0 a1 A' c' (namL s nm l k) ∧ wt.ownsRow (B + 1) 3 1 (.slice A' k c') k (nums .i64 (namL s nm l k)) ∧ Below B wq wt ∧ wt.frozen? ⟨B, 2, none⟩ = false)) (fun j _ => 60 - (intOf j).toNat)
          case atStart => exact ⟨0, none, 0, Nat.zero_le _, rfl, Lib.hid ⟨HY0.out, ⟨rfl, .inl ⟨rfl, rfl⟩⟩, HB3.out, HFZ.out⟩⟩
          case round =>
            obtain ⟨k2, A', c', hk2, rfl, HI⟩ := hrel
            have hwr1 : Below wq.heap.size wq wr := by rw [← HBB.out]; exact HI.out.2.2.1
            have HXl := Lib.hid (off2_below HXk.out hwr1)
            have HNl := Lib.hid (pw_own_below HN1.out.1 hwr1)
            have q2 := HXl.out.1.2.2
            by_cases hll : k2 < l.length
            · have hll' : (k2 : Int) < (l.length : Int) := by omega
              have p0 : (0 : Int) ≤ (k2 : Int) := by omega
              obtain ⟨adl, rfl, hx⟩ := Kd.at_int HXl.out.2 (k2 : Int) p0 hll'
              rw [Int.toNat_natCast] at hx
              obtain ⟨x, hxe⟩ : ∃ x, x = rd l (k2 : Int) := ⟨_, rfl⟩
              rw [← hxe] at hx
              have HXE := Lib.hid hxe
              have x2 := HI.out.1.2.2
              go_wp2_with fail
              rw [namL_length] at x2
              have hm1 : Int.toNat x = mk l k2 := by rw [hxe]; rfl
              have hxm : x = (mk l k2 : Int) := by rw [hxe]; exact mk_rd HZ.out hll
              have hmk := mk_lt HZ.out hll
              have hnok : NamOk s nm := by rw [HNM.out]; exact swN_ok HS1.out (by have := HS.out; omega) sw _
              have HCALL := Lib.hid (fun (W' : World) (hC : Kd.C (Kd.int .i64) W' (some ⟨ng, 0, none⟩) nm.length nm) (hcap : nm.length ≤ ncap) =>
                peaveylaw01_named.calls (s + 1) x (some ⟨ng, 0, none⟩) ncap nm (namTo (mk nm) (mk l k2) s : Int) W' hC hcap (by rw [hxm]; exact named_is hnok hmk (Nat.lt_succ_self s)))
              have hnl : nm.length = s := hnok.len
              clear hxe hm1 hxm hmk hnok
              refine wp_region_last_list (k := 13) rfl (fun w' => w'.cell? ⟨B, 2, none⟩ = some (.slice A' k2 c') ∧ w'.cell? ⟨w.heap.size, 2, none⟩ = some (.slice (some adl) l.length c) ∧ w'.cell? (adl.add k2) = some (.int .i64 x)) [12] (by kernel_rfl) ?_
              have hS : (fun w' : World => w'.cell? ⟨B, 2, none⟩ = some (.slice A' k2 c') ∧ w'.cell? ⟨w.heap.size, 2, none⟩ = some (.slice (some adl) l.length c) ∧ w'.cell? (adl.add k2) = some (.int .i64 x)) wr.drew := ⟨x2, q2, hx⟩
              refine take_listL (i := 0) (v := .pointer (some ⟨B, 2, none⟩)) rfl (by kernel_rfl) (by kernel_rfl) (by kernel_rfl) (by kernel_rfl) (by kernel_rfl) (fun _ _ _ h => h) (by rfl) (by intro w' hw'; go_simp) hS ?_
              refine take_listL (i := 1) (v := .slice A' k2 c') rfl (by kernel_rfl) (by kernel_rfl) (by kernel_rfl) (by kernel_rfl) (by kernel_rfl) (fun _ _ _ h => h) (by rfl) (by intro w' hw'; have q0 := hw'.1; go_simp) hS ?_
              (try simp only [Act.put, List.setIfInBounds_toArray, List.set_cons_zero, List.set_cons_succ])
              refine take_listL (i := 2) (v := .pointer (some ⟨w.heap.size, 2, none⟩)) rfl (by kernel_rfl) (by kernel_rfl) (by kernel_rfl) (by kernel_rfl) (by kernel_rfl) (fun _ _ _ h => h) (by rfl) (by intro w' hw'; go_simp) hS ?_
              (try simp only [Act.put, List.setIfInBounds_toArray, List.set_cons_zero, List.set_cons_succ])
              refine take_listL (i := 3) (v := .slice (some adl) l.length c) rfl (by kernel_rfl) (by kernel_rfl) (by kernel_rfl) (by kernel_rfl) (by kernel_rfl) (fun _ _ _ h => h) (by rfl) (by intro w' hw'; have q0 := hw'.2.1; go_simp) hS ?_
              (try simp only [Act.put, List.setIfInBounds_toArray, List.set_cons_zero, List.set_cons_succ])
              refine take_listL (i := 4) (v := .int .i64 (k2 : Int)) rfl (by kernel_rfl) (by kernel_rfl) (by kernel_rfl) (by kernel_rfl) (by kernel_rfl) (fun _ _ _ h => h) (by rfl) (by intro w' hw'; go_simp) hS ?_
              (try simp only [Act.put, List.setIfInBounds_toArray, List.set_cons_zero, List.set_cons_succ])
              refine take_listL (i := 5) (v := .pointer (some (adl.add k2))) rfl (by kernel_rfl) (by kernel_rfl) (by kernel_rfl) (by kernel_rfl) (by kernel_rfl) (fun _ _ _ h => h) (by rfl) (by intro w' hw'; go_simp) hS ?_
              (try simp only [Act.put, List.setIfInBounds_toArray, List.set_cons_zero, List.set_cons_succ])
              refine take_listL (i := 6) (v := .int .i64 x) rfl (by kernel_rfl) (by kernel_rfl) (by kernel_rfl) (by kernel_rfl) (by kernel_rfl) (fun _ _ _ h => h) (by rfl) (by intro w' hw'; have q0 := hw'.2.2; go_simp) hS ?_
              (try simp only [Act.put, List.setIfInBounds_toArray, List.set_cons_zero, List.set_cons_succ])
              refine take_listL (i := 7) (v := .slice (some ⟨ng, 0, none⟩) s ncap) rfl (by kernel_rfl) (by kernel_rfl) (by kernel_rfl) (by kernel_rfl) (by kernel_rfl) (fun _ _ _ h => h) (by rfl) (by intro w' hw'; go_simp) hS ?_
              (try simp only [Act.put, List.setIfInBounds_toArray, List.set_cons_zero, List.set_cons_succ])
              (try simp only [Act.put, List.setIfInBounds_toArray, List.set_cons_zero, List.set_cons_succ])
              refine step_listL (i := 8) (by kernel_rfl) rfl (by decide) (by rfl) (fun K hK => ?_)
              go_simp
              have hRd : Kd.R (Kd.int .i64) 3 wr w1.heap.size (fun _ => True) (.slice (some ⟨ng, 0, none⟩) nm.length ncap) nm := Kd.R_of_own (enc := Value.int .i64) (h1 := fun _ => rfl) (by rw [hnl]; exact HNl.out) (fun _ _ => trivial)
              obtain ⟨_, _, hv', hcap, hCn⟩ := Kd.R_reads hRd
              cases hv'
              have hCL := HCALL.out wr.drew hCn hcap
              rw [hnl] at hCL
              refine hCL.mono ?_
              rintro e w4 ⟨rfl, hw4⟩
              have hb4 := hw4.below
              have hS4 : (fun w' : World => w'.cell? ⟨B, 2, none⟩ = some (.slice A' k2 c') ∧ w'.cell? ⟨w.heap.size, 2, none⟩ = some (.slice (some adl) l.length c) ∧ w'.cell? (adl.add k2) = some (.int .i64 x)) w4 :=
                ⟨(hb4.cell (cell_size hS.1)).trans hS.1, (hb4.cell (cell_size hS.2.1)).trans hS.2.1, (hb4.cell (cell_size hS.2.2)).trans hS.2.2⟩
              refine hK _ _ hS4 ?_
              clear hK K hS hCL hRd hCn
              (try simp only [Act.put, List.setIfInBounds_toArray, List.set_cons_zero, List.set_cons_succ])
              refine step_listL (i := 9) (by kernel_rfl) rfl (by decide) (by rfl) (fun K hK => ?_)
              go_simp
              obtain ⟨y, hy⟩ : ∃ y : Int, y = (namTo (mk nm) (mk l k2) s : Int) := ⟨_, rfl⟩
              rw [← hy]
              have hb5 : Below w4.heap.size w4 (w4.alloc (.cells #[.int .i64 y] 3)) := (Below.refl _ _).alloc (Nat.le_refl _) _
              have hS5 : (fun w' : World => w'.cell? ⟨B, 2, none⟩ = some (.slice A' k2 c') ∧ w'.cell? ⟨w.heap.size, 2, none⟩ = some (.slice (some adl) l.length c) ∧ w'.cell? (adl.add k2) = some (.int .i64 x)) (w4.alloc (.cells #[.int .i64 y] 3)) :=
                ⟨(hb5.cell (cell_size hS4.1)).trans hS4.1, (hb5.cell (cell_size hS4.2.1)).trans hS4.2.1, (hb5.cell (cell_size hS4.2.2)).trans hS4.2.2⟩
              refine hK _ _ hS5 ?_
              clear hK K hS5 hb5
              (try simp only [Act.put, List.setIfInBounds_toArray, List.set_cons_zero, List.set_cons_succ])
              have hb4' : Below wr.heap.size wr w4 := (Below.refl wr.heap.size wr).drew.trans hb4
              have hB1 : B + 1 ≤ wr.heap.size := cell_size HI.out.1.1
              have hl20 : l.length ≤ 20 := by have := (office_zero HZ.out).2.2.2.2.1; omega
              have HO4 : w4.ownsRow (B + 1) 3 1 (.slice A' k2 c') k2 (nums .i64 (namL s nm l k2)) := pw_own_below HI.out.2.1 hb4'
              have hs4 := hb4'.size
              refine step_listI (i := 10) (by kernel_rfl) rfl (by decide) (fun K hK => ?_)
              refine step_append_cells (w0 := wr) (B + 1) (by rfl) (.tmp 103) (.tmp 111) 22 3 (.int .i64 0) 1 8 rfl Try.underlying22 infoInt rfl (by decide) (by decide) (.slice A' k2 c') k2 (nums .i64 (namL s nm l k2)) [.int .i64 y] rfl rfl rfl (by intro u hu; simp at hu; subst hu; rfl) HO4 (hb4'.mono hB1) (by omega) (by omega) ?_
              intro v5 w5 hown5 hb5 hg5 hat5
              obtain ⟨ng5, ncap5, ncur5, rfl, hng5, hnh5, hrest5⟩ := own_some (Nat.succ_pos k2) hown5
              have hwl : w.heap.size < B := by rw [HBB.out]; exact cell_size HXk.out.1.1
              have hxb : adl.block < B := by
                have h1 := Kd.at_int HXk.out.2 (k2 : Int) p0 hll'
                obtain ⟨ad', e', hx'⟩ := h1
                cases e'
                have h2 := cell_size hx'
                rw [HBB.out]
                rw [show (adl.add (k2 : Int).toNat).block = adl.block by unfold Addr.add; split <;> rfl] at h2
                exact h2
              have hS5 : (fun w' : World => w'.cell? ⟨B, 2, none⟩ = some (.slice A' k2 c') ∧ w'.cell? ⟨w.heap.size, 2, none⟩ = some (.slice (some adl) l.length c) ∧ w'.cell? (adl.add k2) = some (.int .i64 x)) w5 :=
                ⟨(hb5.cell (p := ⟨B, 2, none⟩) (Nat.lt_succ_self B)).trans x2, (hb5.cell (p := ⟨w.heap.size, 2, none⟩) (Nat.lt_succ_of_lt hwl)).trans q2, (hb5.cell (p := adl.add k2) (by rw [show (adl.add k2).block = adl.block by unfold Addr.add; split <;> rfl]; exact Nat.lt_succ_of_lt hxb)).trans hx⟩
              refine hK _ _ hS5 ?_
              clear hK K
              (try simp only [Act.put, List.setIfInBounds_toArray, List.set_cons_zero, List.set_cons_succ])
              refine take_listL (i := 11) (v := .pointer (some ⟨B, 2, none⟩)) rfl (by kernel_rfl) (by kernel_rfl) (by kernel_rfl) (by kernel_rfl) (by kernel_rfl) (fun _ _ _ h => h) (by rfl) (by intro w' hw'; go_simp) hS5 ?_
              (try simp only [Act.put, List.setIfInBounds_toArray, List.set_cons_zero, List.set_cons_succ])
              have hfz : w5.frozen? ⟨B, 2, none⟩ = false := (hb5.frozen (p := ⟨B, 2, none⟩) (Nat.lt_succ_self B)).trans HI.out.2.2.2
              have hc5 := hS5.1
              refine last_listL (i := 12) (by kernel_rfl) rfl (by decide) (by rfl) (fun K hK => ?_)
              go_simp
              refine hK _ _ ?_
              clear hK K
              refine wpAnyLast_done (by kernel_rfl) ?_ _
              have HEND : Hid (∀ wz, wz = w5.setCell ⟨B, 2, none⟩ (.slice (some ⟨ng5, 0, none⟩) (k2 + 1) ncap5) → RegAt wz B a0 a1 (some ⟨ng5, 0, none⟩) ncap5 (namL s nm l (k2 + 1)) ∧ wz.ownsRow (B + 1) 3 1 (.slice (some ⟨ng5, 0, none⟩) (k2 + 1) ncap5) (k2 + 1) (nums .i64 (namL s nm l (k2 + 1))) ∧ Below B wq wz ∧ wz.frozen? ⟨B, 2, none⟩ = false) := Lib.hid (by
                intro wz hwz
                have e : nums .i64 (namL s nm l (k2 + 1)) = nums .i64 (namL s nm l k2) ++ [.int .i64 y] := by rw [namL, hy]; simp [nums]
                obtain ⟨r0, r1, r2⟩ := HI.out.1
                have g0 := (hb5.cell (p := ⟨B, 0, none⟩) (Nat.lt_succ_self B)).trans r0
                have g1 := (hb5.cell (p := ⟨B, 1, none⟩) (Nat.lt_succ_self B)).trans r1
                rw [hwz]
                refine ⟨⟨?_, ?_, ?_⟩, ?_, ?_, ?_⟩
                · rw [World.cell?_setCell_other _ _ _ _ (by simp)]; exact g0
                · rw [World.cell?_setCell_other _ _ _ _ (by simp)]; exact g1
                · rw [namL_length]; exact World.cell?_setCell_same' _ _ _ (by rw [hc5]; rfl)
                · rw [e]
                  refine ⟨hown5.1, .inr ⟨ng5, ncap5, ncur5, rfl, hng5, ?_, hrest5⟩⟩
                  rw [Below.heap_setCell w5 ⟨B, 2, none⟩ _ ng5 (by simp only; omega)]
                  exact hnh5
                · exact (HI.out.2.2.1.trans (hb5.mono (Nat.le_succ B))).setCell (Nat.le_refl B) _
                · rw [World.frozen?_setCell]; exact hfz)
              obtain ⟨wz, hwz⟩ : ∃ wz, wz = w5.setCell ⟨B, 2, none⟩ (.slice (some ⟨ng5, 0, none⟩) (k2 + 1) ncap5) := ⟨_, rfl⟩
              have HZZ := Lib.hid (HEND.out wz hwz)
              rw [← hwz]
              clear hwz HEND
              go_wp2
              go_roundw
              case rel => exact ⟨k2 + 1, some ⟨ng5, 0, none⟩, ncap5, by omega, by go_num, HZZ⟩
              case measure => simp [intOf]; omega
            · have hnll : ¬ ((k2 : Int) < (l.length : Int)) := by omega
              have hke : k2 = l.length := by omega
              obtain ⟨L2, hL2⟩ : ∃ L2, L2 = namL s nm l l.length := ⟨_, rfl⟩
              have HLL : Hid (L2.length = l.length) := Lib.hid (by rw [hL2, namL_length])
              have HY : Hid (OffAt2 wr B a0 a1 A' c' L2) := Lib.hid (by
                have h1 := HI.out.1
                have h2 := HI.out.2.1
                rw [hke, ← hL2] at h1 h2
                have hRd : Kd.R (Kd.int .i64) 3 wr (B + 1) (fun _ => True) (.slice A' L2.length c') L2 := Kd.R_of_own (enc := Value.int .i64) (h1 := fun _ => rfl) (by rw [HLL.out]; exact h2) (fun _ _ => trivial)
                obtain ⟨_, _, hv', -, hCn⟩ := Kd.R_reads hRd
                cases hv'
                exact ⟨h1, hCn⟩)
              have HCP : Hid (L2.length ≤ c') := Lib.hid (by
                have h2 := HI.out.2.1
                rw [hke, ← hL2] at h2
                have hRd : Kd.R (Kd.int .i64) 3 wr (B + 1) (fun _ => True) (.slice A' L2.length c') L2 := Kd.R_of_own (enc := Value.int .i64) (h1 := fun _ => rfl) (by rw [HLL.out]; exact h2) (fun _ _ => trivial)
                obtain ⟨_, _, hv', hcap, -⟩ := Kd.R_reads hRd
                cases hv'
                exact hcap)
              have HBW : Hid (Below w.heap.size w wr) := Lib.hid (HB1.out.trans ((HN1.out.2.trans (hwr1.mono HN1.out.2.size)).mono HB1.out.size))
              rw [← hL2] at HQ HG HN HT
              have hnk : NamOk s nm := by rw [HNM.out]; exact swN_ok HS1.out (by have := HS.out; omega) sw _
              have hnln : nm.length = s := hnk.len
              have HNL2 : Hid (Kd.C (Kd.int .i64) wr (some ⟨ng, 0, none⟩) nm.length nm ∧ nm.length ≤ ncap) := Lib.hid (by
                have hRd : Kd.R (Kd.int .i64) 3 wr w1.heap.size (fun _ => True) (.slice (some ⟨ng, 0, none⟩) nm.length ncap) nm := Kd.R_of_own (enc := Value.int .i64) (h1 := fun _ => rfl) (by rw [hnln]; exact HNl.out) (fun _ _ => trivial)
                obtain ⟨_, _, hv', hcap, hCn⟩ := Kd.R_reads hRd
                cases hv'
                exact ⟨hCn, hcap⟩)
              have HNLN := Lib.hid hnln
              have HWNAM := Lib.hid (named_is hnk HWN.out.2 (Nat.lt_succ_self s))
              clear hL2 hke HI HNl HN1 HNG HBB hwr1 q2 hnk hnln HXk HX1 HB1
              have q0 := HXl.out.1.1
              have q1 := HXl.out.1.2.1
              have q2 := HXl.out.1.2.2
              have hmod := HWN.out.1
              have hwr4 : IntKind.i64.wrap worn = worn := IntWalk.i64_in _ (by omega)
              have hwr5 : IntKind.i64.wrap owner = owner := IntWalk.i64_in _ (by omega)
              have hsh : IntKind.i64.wrap (1 * 2 ^ a0.toNat) = allN a0 + 1 := by
                have : a0 = 1 ∨ a0 = 2 ∨ a0 = 3 ∨ a0 = 4 ∨ a0 = 5 ∨ a0 = 6 ∨ a0 = 7 ∨ a0 = 8 := by omega
                rcases this with e | e | e | e | e | e | e | e <;> (rw [e]; decide +kernel)
              have hsh2 : IntKind.i64.wrap (2 ^ a0.toNat) = allN a0 + 1 := by rw [← hsh, Int.one_mul]
              have hsne : ¬ (allN a0 + 1 = 0) := by omega
              go_wp2_with fail
              clear q0 q1 q2 hsh hsh2 hsne hwr4 hmod
              refine (mark_Owners.calls a0 a1 A c l (wn : Int) p 0 wr HXl.out.2 hc HP.out).mono ?_
              rintro e w5 ⟨v, rfl, hrv, hw⟩
              obtain ⟨Sp, sp, rfl, hs', hC⟩ := Kd.R_reads hrv
              have HSp := Lib.hid (And.intro hC hs')
              clear hrv hs' hC HP
              have HX5 := Lib.hid (off2_below HXl.out hw)
              have HY5 := Lib.hid (off2_below HY.out hw)
              have HNL5 := Lib.hid (Kd.C_below HNL2.out.1 hw)
              have HB5 := Lib.hid (HBW.out.trans (hw.mono HBW.out.size))
              clear hw HXl HY HBW
              go_wp2_with fail
              obtain ⟨r0, r1, r2⟩ := HY5.out.1
              rw [HLL.out] at r2
              have hS : (fun w' : World => w'.cell? ⟨B, 0, none⟩ = some (.int .i64 a0) ∧ w'.cell? ⟨B, 1, none⟩ = some (.int .i64 a1) ∧ w'.cell? ⟨B, 2, none⟩ = some (.slice A' l.length c')) w5.drew := ⟨r0, r1, r2⟩
              refine wp_region_held_list (k := 10) rfl (fun w' => w'.cell? ⟨B, 0, none⟩ = some (.int .i64 a0) ∧ w'.cell? ⟨B, 1, none⟩ = some (.int .i64 a1) ∧ w'.cell? ⟨B, 2, none⟩ = some (.slice A' l.length c')) (by kernel_rfl) ?_
              refine take_list (i := 0) (v := .agg #[.int .i64 a0, .int .i64 a1, .slice A' l.length c']) rfl (by kernel_rfl) (by kernel_rfl) (by kernel_rfl) (fun _ _ _ h => h) (by rfl) (by intro w' hw'; have q0 := hw'.1; have q1 := hw'.2.1; have q2 := hw'.2.2; go_simp) hS ?_
              refine take_list (i := 1) (v := .int .i64 wn) rfl (by kernel_rfl) (by kernel_rfl) (by kernel_rfl) (fun _ _ _ h => h) (by rfl) (by intro w' hw'; go_simp) hS ?_
              refine take_list (i := 2) (v := .slice (some ⟨ng, 0, none⟩) s ncap) rfl (by kernel_rfl) (by kernel_rfl) (by kernel_rfl) (fun _ _ _ h => h) (by rfl) (by intro w' hw'; go_simp) hS ?_
              (try simp only [Act.put, List.setIfInBounds_toArray, List.set_cons_zero, List.set_cons_succ])
              refine step_list (i := 3) (by kernel_rfl) rfl (by rfl) (fun K hK => ?_)
              go_simp
              have hCL := peaveylaw01_named.calls (s + 1) (wn : Int) (some ⟨ng, 0, none⟩) ncap nm _ w5.drew HNL5.out HNL2.out.2 HWNAM.out
              rw [HNLN.out] at hCL
              refine hCL.mono ?_
              rintro e w6 ⟨rfl, hw6⟩
              have hw := hw6.below
              have hS6 : (fun w' : World => w'.cell? ⟨B, 0, none⟩ = some (.int .i64 a0) ∧ w'.cell? ⟨B, 1, none⟩ = some (.int .i64 a1) ∧ w'.cell? ⟨B, 2, none⟩ = some (.slice A' l.length c')) w6 :=
                ⟨(hw.cell (cell_size hS.1)).trans hS.1, (hw.cell (cell_size hS.2.1)).trans hS.2.1, (hw.cell (cell_size hS.2.2)).trans hS.2.2⟩
              refine hK _ _ hS6 ?_
              clear hK K hCL
              (try simp only [Act.put, List.setIfInBounds_toArray, List.set_cons_zero, List.set_cons_succ])
              have hw : Below w5.heap.size w5 w6 := (Below.refl w5.heap.size w5).drew.trans hw
              have HSp := Lib.hid (And.intro (Kd.C_below HSp.out.1 hw) HSp.out.2)
              have HX6 := Lib.hid (off2_below HX5.out hw)
              have HY6 := Lib.hid (off2_below HY5.out hw)
              have HB6 := Lib.hid (HB5.out.trans (hw.mono HB5.out.size))
              clear hw hw6 HX5 HY5 HB5 HNL5 hS r0 r1 r2
              refine step_list (i := 4) (by kernel_rfl) rfl (by rfl) (fun K hK => ?_)
              go_simp
              have hCL := mark_Owners.calls a0 a1 A' c' L2 (namTo (mk nm) wn s : Int) p 0 w6 HY6.out.2 HCP.out HQ.out
              rw [HLL.out] at hCL
              refine hCL.mono ?_
              rintro e w7 ⟨v, rfl, hrv, hw⟩
              obtain ⟨Sq, sq, rfl, hs', hC⟩ := Kd.R_reads hrv
              have HSq := Lib.hid (And.intro hC hs')
              clear hrv hs' hC HQ
              have hS7 : (fun w' : World => w'.cell? ⟨B, 0, none⟩ = some (.int .i64 a0) ∧ w'.cell? ⟨B, 1, none⟩ = some (.int .i64 a1) ∧ w'.cell? ⟨B, 2, none⟩ = some (.slice A' l.length c')) w7 :=
                ⟨(hw.cell (cell_size hS6.1)).trans hS6.1, (hw.cell (cell_size hS6.2.1)).trans hS6.2.1, (hw.cell (cell_size hS6.2.2)).trans hS6.2.2⟩
              refine hK _ _ hS7 ?_
              clear hK K hCL
              (try simp only [Act.put, List.setIfInBounds_toArray, List.set_cons_zero, List.set_cons_succ])
              have HSp := Lib.hid (And.intro (Kd.C_below HSp.out.1 hw) HSp.out.2)
              have HX7 := Lib.hid (off2_below HX6.out hw)
              have HY7 := Lib.hid (off2_below HY6.out hw)
              have HB7 := Lib.hid (HB6.out.trans (hw.mono HB6.out.size))
              clear hw HX6 HY6 HB6 hS6
              refine take_list (i := 5) (v := .tuple #[.slice Sq p.length sq, .int .i64 0]) rfl (by kernel_rfl) (by kernel_rfl) (by kernel_rfl) (fun _ _ _ h => h) (by rfl) (by intro w' hw'; go_simp) hS7 ?_
              refine take_list (i := 6) (v := .slice Sq p.length sq) rfl (by kernel_rfl) (by kernel_rfl) (by kernel_rfl) (fun _ _ _ h => h) (by rfl) (by intro w' hw'; go_simp) hS7 ?_
              refine take_list (i := 7) (v := .int .i64 0) rfl (by kernel_rfl) (by kernel_rfl) (by kernel_rfl) (fun _ _ _ h => h) (by rfl) (by intro w' hw'; go_simp) hS7 ?_
              refine take_list (i := 8) (v := .slice Sq p.length sq) rfl (by kernel_rfl) (by kernel_rfl) (by kernel_rfl) (fun _ _ _ h => h) (by rfl) (by intro w' hw'; go_simp) hS7 ?_
              refine take_list (i := 9) (v := .int .i64 0) rfl (by kernel_rfl) (by kernel_rfl) (by kernel_rfl) (fun _ _ _ h => h) (by rfl) (by intro w' hw'; go_simp) hS7 ?_
              (try simp only [Act.put, List.setIfInBounds_toArray, List.set_cons_zero, List.set_cons_succ])
              refine wpAnyH_done (by kernel_rfl) ?_ _
              clear hS7
              have q0 := HX7.out.1.1
              have q1 := HX7.out.1.2.1
              have q2 := HX7.out.1.2.2
              go_wp2_with fail
              clear q0 q1 q2
              refine (mark_Margin.calls a0 a1 A c l m 0 w7 HX7.out.2 hc HM.out).mono ?_
              rintro e w8 ⟨rfl, hw⟩
              have HSp := Lib.hid (And.intro (Kd.C_below HSp.out.1 hw) HSp.out.2)
              have HSq := Lib.hid (And.intro (Kd.C_below HSq.out.1 hw) HSq.out.2)
              have HX8 := Lib.hid (off2_below HX7.out hw)
              have HY8 := Lib.hid (off2_below HY7.out hw)
              have HB8 := Lib.hid (HB7.out.trans (hw.mono HB7.out.size))
              clear hw HX7 HY7 HB7 HM
              have q0 := HY8.out.1.1
              have q1 := HY8.out.1.2.1
              have q2 := HY8.out.1.2.2
              rw [HLL.out] at q2
              go_wp2_with fail
              clear q0 q1 q2
              have hCL := mark_Margin.calls a0 a1 A' c' L2 m 0 w8 HY8.out.2 HCP.out HN.out
              rw [HLL.out] at hCL
              refine hCL.mono ?_
              clear hCL
              rintro e w9 ⟨rfl, hw⟩
              have HSp := Lib.hid (And.intro (Kd.C_below HSp.out.1 hw) HSp.out.2)
              have HSq := Lib.hid (And.intro (Kd.C_below HSq.out.1 hw) HSq.out.2)
              have HX9 := Lib.hid (off2_below HX8.out hw)
              have HY9 := Lib.hid (off2_below HY8.out hw)
              have HB9 := Lib.hid (HB8.out.trans (hw.mono HB8.out.size))
              clear hw HX8 HY8 HB8 HN
              have q0 := HX9.out.1.1
              have q1 := HX9.out.1.2.1
              have q2 := HX9.out.1.2.2
              go_wp2_with fail
              clear q0 q1 q2
              refine (mark_Free.calls a0 a1 A c l f 0 w9 HX9.out.2 hc HFF.out).mono ?_
              rintro e w10 ⟨v, rfl, hrv, hw⟩
              obtain ⟨Sf, sf, rfl, -, -⟩ := Kd.R_reads hrv
              clear hrv HFF
              have HSp := Lib.hid (And.intro (Kd.C_below HSp.out.1 hw) HSp.out.2)
              have HSq := Lib.hid (And.intro (Kd.C_below HSq.out.1 hw) HSq.out.2)
              have HX10 := Lib.hid (off2_below HX9.out hw)
              have HY10 := Lib.hid (off2_below HY9.out hw)
              have HB10 := Lib.hid (HB9.out.trans (hw.mono HB9.out.size))
              clear hw HX9 HY9 HB9
              have q0 := HY10.out.1.1
              have q1 := HY10.out.1.2.1
              have q2 := HY10.out.1.2.2
              rw [HLL.out] at q2
              go_wp2_with fail
              clear q0 q1 q2
              have hCL := mark_Free.calls a0 a1 A' c' L2 g 0 w10 HY10.out.2 HCP.out HG.out
              rw [HLL.out] at hCL
              refine hCL.mono ?_
              clear hCL
              rintro e w11 ⟨v, rfl, hrv, hw⟩
              obtain ⟨Sg, sg, rfl, -, -⟩ := Kd.R_reads hrv
              rw [HFG.out]
              clear hrv HG
              have HSp := Lib.hid (And.intro (Kd.C_below HSp.out.1 hw) HSp.out.2)
              have HSq := Lib.hid (And.intro (Kd.C_below HSq.out.1 hw) HSq.out.2)
              have HX11 := Lib.hid (off2_below HX10.out hw)
              have HY11 := Lib.hid (off2_below HY10.out hw)
              have HB11 := Lib.hid (HB10.out.trans (hw.mono HB10.out.size))
              clear hw HX10 HY10 HB10
              go_wp2_with fail
              refine (peaveylaw01_Ints.calls k0 Sp sp p Sq sq p true w11 HSp.out.1 HSp.out.2 HSq.out.1 HSq.out.2 HPQ.out).mono ?_
              rintro e w12 ⟨rfl, hw'⟩
              have hw := hw'.below
              have HX12 := Lib.hid (off2_below HX11.out hw)
              have HY12 := Lib.hid (off2_below HY11.out hw)
              have HB12 := Lib.hid (HB11.out.trans (hw.mono HB11.out.size))
              clear hw hw' HX11 HY11 HB11 HSp HSq HPQ
              have q0 := HX12.out.1.1
              have q1 := HX12.out.1.2.1
              have q2 := HX12.out.1.2.2
              by_cases hl0 : l.length = 0
              · have z0 : (l.length : Int) = 0 := by omega
                go_wp2_with fail
                clear q0 q1 q2
                refine (works_true w12).mono ?_
                rintro e w13 ⟨rfl, hw⟩
                have HB13 := Lib.hid (HB12.out.trans (hw.mono HB12.out.size))
                clear hw
                go_wp2
                go_ret
                exact ⟨rfl, HB13.out⟩
              · have z0 : ¬ ((l.length : Int) = 0) := by omega
                obtain ⟨i, t, u, v, ek, z, hi, t1, t2, t3, t4, he, s1, s2⟩ := HT.out hl0
                have T1 := Lib.hid t1
                have T2 := Lib.hid t2
                have T3 := Lib.hid t3
                have T4 := Lib.hid t4
                have T5 := Lib.hid s1
                have T6 := Lib.hid s2
                have T7 := Lib.hid he
                clear t1 t2 t3 t4 s1 s2 he
                go_wp2_with fail
                clear q0 q1 q2
                refine (mark_Told.calls a0 a1 A c l (i : Int) t 0 w12 HX12.out.2 hc T1.out).mono ?_
                rintro e w13 ⟨rfl, hw⟩
                have HX13 := Lib.hid (off2_below HX12.out hw)
                have HY13 := Lib.hid (off2_below HY12.out hw)
                have HB13 := Lib.hid (HB12.out.trans (hw.mono HB12.out.size))
                clear hw HX12 HY12 HB12
                have q0 := HY13.out.1.1
                have q1 := HY13.out.1.2.1
                have q2 := HY13.out.1.2.2
                rw [HLL.out] at q2
                go_wp2_with fail
                clear q0 q1 q2
                have hCL := mark_Told.calls a0 a1 A' c' L2 (i : Int) t 0 w13 HY13.out.2 HCP.out T2.out
                rw [HLL.out] at hCL
                refine hCL.mono ?_
                clear hCL
                rintro e w14 ⟨rfl, hw⟩
                have HX14 := Lib.hid (off2_below HX13.out hw)
                have HY14 := Lib.hid (off2_below HY13.out hw)
                have HB14 := Lib.hid (HB13.out.trans (hw.mono HB13.out.size))
                clear hw HX13 HY13 HB13
                have q0 := HX14.out.1.1
                have q1 := HX14.out.1.2.1
                have q2 := HX14.out.1.2.2
                go_wp2_with fail
                clear q0 q1 q2
                refine (mark_Keep.calls a0 a1 A c l (i : Int) u ek w14 HX14.out.2 hc T3.out).mono ?_
                rintro e w15 ⟨rfl, hw⟩
                have HY15 := Lib.hid (off2_below HY14.out hw)
                have HB15 := Lib.hid (HB14.out.trans (hw.mono HB14.out.size))
                clear hw HX14 HY14 HB14
                have q0 := HY15.out.1.1
                have q1 := HY15.out.1.2.1
                have q2 := HY15.out.1.2.2
                rw [HLL.out] at q2
                go_wp2_with fail
                clear q0 q1 q2
                have hCL := mark_Keep.calls a0 a1 A' c' L2 (i : Int) v ek w15 HY15.out.2 HCP.out T4.out
                rw [HLL.out] at hCL
                refine hCL.mono ?_
                clear hCL
                rintro e w16 ⟨rfl, hw⟩
                have HB16 := Lib.hid (HB15.out.trans (hw.mono HB15.out.size))
                clear hw HY15 HB15
                rcases T7.out with rfl | rfl
                · go_wp2_with fail
                  refine (peaveyref01_Size.calls k0 u z w16 T5.out).mono ?_
                  rintro e w17 ⟨rfl, hw'⟩
                  have HB17 := Lib.hid (HB16.out.trans (hw'.below.mono HB16.out.size))
                  clear hw' HB16
                  go_wp2_with fail
                  refine (peaveyref01_Size.calls k0 v z w17 T6.out).mono ?_
                  rintro e w18 ⟨rfl, hw'⟩
                  have HB18 := Lib.hid (HB17.out.trans (hw'.below.mono HB17.out.size))
                  clear hw' HB17
                  go_wp2_with fail
                  refine (works_true w18).mono ?_
                  rintro e w19 ⟨rfl, hw⟩
                  have HB19 := Lib.hid (HB18.out.trans (hw.mono HB18.out.size))
                  clear hw
                  go_wp2
                  go_ret
                  exact ⟨rfl, HB19.out⟩
                · go_wp2_with fail
                  refine (peaveyref01_Size.calls k0 u z w16 T5.out).mono ?_
                  rintro e w17 ⟨rfl, hw'⟩
                  have HB17 := Lib.hid (HB16.out.trans (hw'.below.mono HB16.out.size))
                  clear hw' HB16
                  go_wp2_with fail
                  refine (peaveyref01_Size.calls k0 v z w17 T6.out).mono ?_
                  rintro e w18 ⟨rfl, hw'⟩
                  have HB18 := Lib.hid (HB17.out.trans (hw'.below.mono HB17.out.size))
                  clear hw' HB17
                  go_wp2_with fail
                  refine (works_true w18).mono ?_
                  rintro e w19 ⟨rfl, hw⟩
                  have HB19 := Lib.hid (HB18.out.trans (hw.mono HB18.out.size))
                  clear hw
                  go_wp2
                  go_ret
                  exact ⟨rfl, HB19.out⟩
end Go.Proofs.Ytbhcchhhpmlpmaa.Pnam

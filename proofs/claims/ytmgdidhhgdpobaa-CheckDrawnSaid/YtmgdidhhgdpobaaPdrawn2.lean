/- The machine's side of some functions: each Go function as a plain Lean function, and a proof that its call comes to what that says. Written by a program of the session's over the kit's print. -/
import Derived.Test.YtmgdidhhgdpobaaPdrawn0
namespace Go.Proofs.Ytmgdidhhgdpobaa.Pdrawn
open Go.RowKit Go.Proofs.YtmgdidhhgdpobaaW.PrintWords Go.Proofs.YtmgdidhhgdpobaaW.PrintLast Go.Proofs.YtmgdidhhgdpobaaW.PrintMore Go.Proofs.Ytmgdidhhgdpobaa.Hand Go.Proofs.Ytmgdidhhgdpobaa.PrA Go.Proofs.Ytmgdidhhgdpobaa.PrR Go.Proofs.Ytmgdidhhgdpobaa.PrU Go.Proofs.Ytmgdidhhgdpobaa.PrC Go.Proofs.Ytmgdidhhgdpobaa.PrD
attribute [local go_sem] max2_int min2_int max_two min_two max_three min_three max_four min_four   -- for this text's walks alone
set_option linter.unusedVariables false
set_option linter.unusedSimpArgs false

/-! ### peaveylaw10_CheckDrawn: function 11 -/
mutual
def peaveylaw10_CheckDrawn.j0 : Nat → Int → Int → Int → Int → Int → Int → Bool → Option (Bool)
  | 0, _, _, _, _, _, _, _ => none
  | k + 1, x2, x3, x4, x11, x13, x15, x52 => if x52 = true then (some false) else (if (IntKind.u64.wrap (x15)) = 0 then (none) else ((check_Draw.f x11 x13 (wrap64 (Int.tmod x2 (IntKind.u64.wrap (x15))))).bind fun bt108 => ((check_Draw.f x11 x13 (wrap64 (Int.tmod x3 (IntKind.u64.wrap (x15))))).bind fun bt112 => (if bt108.2 = 0 then (if bt112.2 = 0 then (if (bt108.1.length : Int) = x13 then (if (bt112.1.length : Int) = x13 then ((peaveyref10_IsSample.f k x11 bt108.1).bind fun t116 => (if t116 = true then ((peaveyref10_IsSample.f k x11 bt112.1).bind fun t117 => (peaveylaw10_CheckDrawn.j1 k x4 x11 x13 (wrap64 (Int.tmod x2 (IntKind.u64.wrap (x15)))) (wrap64 (Int.tmod x3 (IntKind.u64.wrap (x15)))) bt108.1 bt112.1 (!t117))) else (peaveylaw10_CheckDrawn.j1 k x4 x11 x13 (wrap64 (Int.tmod x2 (IntKind.u64.wrap (x15)))) (wrap64 (Int.tmod x3 (IntKind.u64.wrap (x15)))) bt108.1 bt112.1 true))) else (peaveylaw10_CheckDrawn.j1 k x4 x11 x13 (wrap64 (Int.tmod x2 (IntKind.u64.wrap (x15)))) (wrap64 (Int.tmod x3 (IntKind.u64.wrap (x15)))) bt108.1 bt112.1 true)) else (peaveylaw10_CheckDrawn.j1 k x4 x11 x13 (wrap64 (Int.tmod x2 (IntKind.u64.wrap (x15)))) (wrap64 (Int.tmod x3 (IntKind.u64.wrap (x15)))) bt108.1 bt112.1 true)) else (peaveylaw10_CheckDrawn.j1 k x4 x11 x13 (wrap64 (Int.tmod x2 (IntKind.u64.wrap (x15)))) (wrap64 (Int.tmod x3 (IntKind.u64.wrap (x15)))) bt108.1 bt112.1 true)) else (peaveylaw10_CheckDrawn.j1 k x4 x11 x13 (wrap64 (Int.tmod x2 (IntKind.u64.wrap (x15)))) (wrap64 (Int.tmod x3 (IntKind.u64.wrap (x15)))) bt108.1 bt112.1 true)))))
def peaveylaw10_CheckDrawn.j1 : Nat → Int → Int → Int → Int → Int → List Int → List Int → Bool → Option (Bool)
  | 0, _, _, _, _, _, _, _, _ => none
  | k + 1, x4, x11, x13, x17, x18, x19, x21, x106 => if x106 = true then (some false) else ((check_Number.f x11 x19).bind fun bt118 => (if bt118.2 = 0 then (peaveylaw10_CheckDrawn.j2 k x4 x11 x13 x17 x18 x19 x21 (bt118.1 != x17)) else (peaveylaw10_CheckDrawn.j2 k x4 x11 x13 x17 x18 x19 x21 true)))
def peaveylaw10_CheckDrawn.j2 : Nat → Int → Int → Int → Int → Int → List Int → List Int → Bool → Option (Bool)
  | 0, _, _, _, _, _, _, _, _ => none
  | k + 1, x4, x11, x13, x17, x18, x19, x21, x119 => if x119 = true then (some false) else (peaveylaw10_CheckDrawn.l0 k x4 x11 x13 x17 x18 x19 x21 0)
def peaveylaw10_CheckDrawn.j4 : Nat → Int → Int → Int → Option (Bool)
  | 0, _, _, _ => none
  | k + 1, x4, x11, x13 => peaveylaw10_CheckDrawn.l1 k x4 x11 x13 ([] : List Int) 0
def peaveylaw10_CheckDrawn.l1 : Nat → Int → Int → Int → List Int → Int → Option (Bool)
  | 0, _, _, _, _, _ => none
  | k + 1, x4, x11, x13, x25, x26 => if x26 < x11 then (if 0 ≤ x26 then (if (Go.bits .and .u64 (shr .u64 x4 x26) 1) = 1 then (if x25.length < 17592186044416 then (peaveylaw10_CheckDrawn.l1 k x4 x11 x13 (x25 ++ [x26]) (wrap64 (x26 + 1))) else (none)) else (peaveylaw10_CheckDrawn.l1 k x4 x11 x13 x25 (wrap64 (x26 + 1)))) else (none)) else ((check_Number.f x11 x25).bind fun bt127 => ((check_Draw.f x11 (x25.length : Int) bt127.1).bind fun bt129 => (if bt127.2 = 0 then (if bt129.2 = 0 then ((peaveylaw10_Ints.f k bt129.1 x25).bind fun t133 => (if t133 = true then (peaveylaw10_CheckDrawn.j6 k x11 x13 bt127.2 bt129.2 x25 bt129.1 (x13 == 0)) else (peaveylaw10_CheckDrawn.j6 k x11 x13 bt127.2 bt129.2 x25 bt129.1 true))) else (peaveylaw10_CheckDrawn.j6 k x11 x13 bt127.2 bt129.2 x25 bt129.1 true)) else (peaveylaw10_CheckDrawn.j6 k x11 x13 bt127.2 bt129.2 x25 bt129.1 true))))
def peaveylaw10_CheckDrawn.j6 : Nat → Int → Int → Int → Int → List Int → List Int → Bool → Option (Bool)
  | 0, _, _, _, _, _, _, _ => none
  | k + 1, x11, x13, x20, x22, x25, x27, x190 => if x190 = true then (if x20 = 0 then (if x22 = 0 then ((peaveylaw10_Ints.f k x27 x25).bind fun t134 => (if t134 = true then ((peaveylaw10_Works.f).bind fun t135 => (some t135)) else (some false))) else (some false)) else (some false)) else ((check_Choose.f (wrap64 (x11 - 1)) (wrap64 (x13 - 1))).bind fun bt136 => (if bt136.2 = 0 then ((check_Draw.f x11 x13 (wrap64 (bt136.1 - 1))).bind fun bt138 => (if bt138.2 = 0 then (if (bt138.1.length : Int) = x13 then (if 0 < (bt138.1.length : Int) then (if (rd bt138.1 0) = 0 then ((peaveylaw10_Works.f).bind fun t143 => (some t143)) else (some false)) else (none)) else (some false)) else (some false))) else (some false)))
def peaveylaw10_CheckDrawn.l0 : Nat → Int → Int → Int → Int → Int → List Int → List Int → Int → Option (Bool)
  | 0, _, _, _, _, _, _, _, _ => none
  | k + 1, x4, x11, x13, x17, x18, x19, x21, x24 => if x24 < x13 then (if 0 ≤ x24 then (if x24 < (x19.length : Int) then (if x24 < (x21.length : Int) then (if (rd x19 x24) = (rd x21 x24) then (peaveylaw10_CheckDrawn.l0 k x4 x11 x13 x17 x18 x19 x21 (wrap64 (x24 + 1))) else (if ((decide ((rd x19 x24) < (rd x21 x24))) != (decide (x17 < x18))) = true then (some false) else (peaveylaw10_CheckDrawn.j4 k x4 x11 x13))) else (none)) else (none)) else (none)) else (peaveylaw10_CheckDrawn.j4 k x4 x11 x13)
end
def peaveylaw10_CheckDrawn.f (k : Nat) (a0 : Int) (a1 : Int) (a2 : Int) (a3 : Int) (a4 : Int) : Option (Bool) := (peaveylaw10_boom.f a0 0 a1 0).bind fun bt101 => ((check_Choose.f bt101.1 bt101.2.2.1).bind fun bt105 => (if bt105.2 = 0 then ((peaveyref10_Choices.f k bt101.1 bt101.2.2.1).bind fun t107 => (peaveylaw10_CheckDrawn.j0 k a2 a3 a4 bt101.1 bt101.2.2.1 bt105.1 (bt105.1 != t107))) else (peaveylaw10_CheckDrawn.j0 k a2 a3 a4 bt101.1 bt101.2.2.1 bt105.1 true)))
theorem peaveylaw10_CheckDrawn.mono_l : ∀ k, (∀ y0 y1 y2 y3 y4 y5 y6, LeO (peaveylaw10_CheckDrawn.j0 k y0 y1 y2 y3 y4 y5 y6) (peaveylaw10_CheckDrawn.j0 (k + 1) y0 y1 y2 y3 y4 y5 y6)) ∧ (∀ y0 y1 y2 y3 y4 y5 y6 y7, LeO (peaveylaw10_CheckDrawn.j1 k y0 y1 y2 y3 y4 y5 y6 y7) (peaveylaw10_CheckDrawn.j1 (k + 1) y0 y1 y2 y3 y4 y5 y6 y7)) ∧ (∀ y0 y1 y2 y3 y4 y5 y6 y7, LeO (peaveylaw10_CheckDrawn.j2 k y0 y1 y2 y3 y4 y5 y6 y7) (peaveylaw10_CheckDrawn.j2 (k + 1) y0 y1 y2 y3 y4 y5 y6 y7)) ∧ (∀ y0 y1 y2, LeO (peaveylaw10_CheckDrawn.j4 k y0 y1 y2) (peaveylaw10_CheckDrawn.j4 (k + 1) y0 y1 y2)) ∧ (∀ y0 y1 y2 y3 y4, LeO (peaveylaw10_CheckDrawn.l1 k y0 y1 y2 y3 y4) (peaveylaw10_CheckDrawn.l1 (k + 1) y0 y1 y2 y3 y4)) ∧ (∀ y0 y1 y2 y3 y4 y5 y6, LeO (peaveylaw10_CheckDrawn.j6 k y0 y1 y2 y3 y4 y5 y6) (peaveylaw10_CheckDrawn.j6 (k + 1) y0 y1 y2 y3 y4 y5 y6)) ∧ (∀ y0 y1 y2 y3 y4 y5 y6 y7, LeO (peaveylaw10_CheckDrawn.l0 k y0 y1 y2 y3 y4 y5 y6 y7) (peaveylaw10_CheckDrawn.l0 (k + 1) y0 y1 y2 y3 y4 y5 y6 y7))
  | 0 => ⟨fun _ _ _ _ _ _ _ r h => by simp [peaveylaw10_CheckDrawn.j0] at h, fun _ _ _ _ _ _ _ _ r h => by simp [peaveylaw10_CheckDrawn.j1] at h, fun _ _ _ _ _ _ _ _ r h => by simp [peaveylaw10_CheckDrawn.j2] at h, fun _ _ _ r h => by simp [peaveylaw10_CheckDrawn.j4] at h, fun _ _ _ _ _ r h => by simp [peaveylaw10_CheckDrawn.l1] at h, fun _ _ _ _ _ _ _ r h => by simp [peaveylaw10_CheckDrawn.j6] at h, fun _ _ _ _ _ _ _ _ r h => by simp [peaveylaw10_CheckDrawn.l0] at h⟩
  | k + 1 => by
    obtain ⟨ih0, ih1, ih2, ih3, ih4, ih5, ih6⟩ := peaveylaw10_CheckDrawn.mono_l k
    refine ⟨?_, ?_, ?_, ?_, ?_, ?_, ?_⟩
    · intro y0 y1 y2 y3 y4 y5 y6
      unfold peaveylaw10_CheckDrawn.j0
      repeat' first
      | (with_reducible exact ih0 _ _ _ _ _ _ _)
      | (with_reducible exact ih1 _ _ _ _ _ _ _ _)
      | (with_reducible exact ih2 _ _ _ _ _ _ _ _)
      | (with_reducible exact ih3 _ _ _)
      | (with_reducible exact ih4 _ _ _ _ _)
      | (with_reducible exact ih5 _ _ _ _ _ _ _)
      | (with_reducible exact ih6 _ _ _ _ _ _ _ _)
      | (with_reducible exact peaveylaw10_Ints.mono _ _ _)
      | (with_reducible exact peaveyref10_Choices.mono _ _ _)
      | (with_reducible exact peaveyref10_IsSample.mono _ _ _)
      | (with_reducible exact LeO.refl _)
      | (with_reducible exact LeO.none _)
      | (with_reducible refine LeO.ite ?_ ?_)
      | (with_reducible refine LeO.bind ?_ (fun _ => ?_))
      | exact ih0 _ _ _ _ _ _ _
      | exact ih1 _ _ _ _ _ _ _ _
      | exact ih2 _ _ _ _ _ _ _ _
      | exact ih3 _ _ _
      | exact ih4 _ _ _ _ _
      | exact ih5 _ _ _ _ _ _ _
      | exact ih6 _ _ _ _ _ _ _ _
      | exact peaveylaw10_Ints.mono _ _ _
      | exact peaveyref10_Choices.mono _ _ _
      | exact peaveyref10_IsSample.mono _ _ _
      | exact LeO.none _
      | refine LeO.ite ?_ ?_
      | refine LeO.bind ?_ (fun _ => ?_)
    · intro y0 y1 y2 y3 y4 y5 y6 y7
      unfold peaveylaw10_CheckDrawn.j1
      repeat' first
      | (with_reducible exact ih0 _ _ _ _ _ _ _)
      | (with_reducible exact ih1 _ _ _ _ _ _ _ _)
      | (with_reducible exact ih2 _ _ _ _ _ _ _ _)
      | (with_reducible exact ih3 _ _ _)
      | (with_reducible exact ih4 _ _ _ _ _)
      | (with_reducible exact ih5 _ _ _ _ _ _ _)
      | (with_reducible exact ih6 _ _ _ _ _ _ _ _)
      | (with_reducible exact peaveylaw10_Ints.mono _ _ _)
      | (with_reducible exact peaveyref10_Choices.mono _ _ _)
      | (with_reducible exact peaveyref10_IsSample.mono _ _ _)
      | (with_reducible exact LeO.refl _)
      | (with_reducible exact LeO.none _)
      | (with_reducible refine LeO.ite ?_ ?_)
      | (with_reducible refine LeO.bind ?_ (fun _ => ?_))
      | exact ih0 _ _ _ _ _ _ _
      | exact ih1 _ _ _ _ _ _ _ _
      | exact ih2 _ _ _ _ _ _ _ _
      | exact ih3 _ _ _
      | exact ih4 _ _ _ _ _
      | exact ih5 _ _ _ _ _ _ _
      | exact ih6 _ _ _ _ _ _ _ _
      | exact peaveylaw10_Ints.mono _ _ _
      | exact peaveyref10_Choices.mono _ _ _
      | exact peaveyref10_IsSample.mono _ _ _
      | exact LeO.none _
      | refine LeO.ite ?_ ?_
      | refine LeO.bind ?_ (fun _ => ?_)
    · intro y0 y1 y2 y3 y4 y5 y6 y7
      unfold peaveylaw10_CheckDrawn.j2
      repeat' first
      | (with_reducible exact ih0 _ _ _ _ _ _ _)
      | (with_reducible exact ih1 _ _ _ _ _ _ _ _)
      | (with_reducible exact ih2 _ _ _ _ _ _ _ _)
      | (with_reducible exact ih3 _ _ _)
      | (with_reducible exact ih4 _ _ _ _ _)
      | (with_reducible exact ih5 _ _ _ _ _ _ _)
      | (with_reducible exact ih6 _ _ _ _ _ _ _ _)
      | (with_reducible exact peaveylaw10_Ints.mono _ _ _)
      | (with_reducible exact peaveyref10_Choices.mono _ _ _)
      | (with_reducible exact peaveyref10_IsSample.mono _ _ _)
      | (with_reducible exact LeO.refl _)
      | (with_reducible exact LeO.none _)
      | (with_reducible refine LeO.ite ?_ ?_)
      | (with_reducible refine LeO.bind ?_ (fun _ => ?_))
      | exact ih0 _ _ _ _ _ _ _
      | exact ih1 _ _ _ _ _ _ _ _
      | exact ih2 _ _ _ _ _ _ _ _
      | exact ih3 _ _ _
      | exact ih4 _ _ _ _ _
      | exact ih5 _ _ _ _ _ _ _
      | exact ih6 _ _ _ _ _ _ _ _
      | exact peaveylaw10_Ints.mono _ _ _
      | exact peaveyref10_Choices.mono _ _ _
      | exact peaveyref10_IsSample.mono _ _ _
      | exact LeO.none _
      | refine LeO.ite ?_ ?_
      | refine LeO.bind ?_ (fun _ => ?_)
    · intro y0 y1 y2
      unfold peaveylaw10_CheckDrawn.j4
      repeat' first
      | (with_reducible exact ih0 _ _ _ _ _ _ _)
      | (with_reducible exact ih1 _ _ _ _ _ _ _ _)
      | (with_reducible exact ih2 _ _ _ _ _ _ _ _)
      | (with_reducible exact ih3 _ _ _)
      | (with_reducible exact ih4 _ _ _ _ _)
      | (with_reducible exact ih5 _ _ _ _ _ _ _)
      | (with_reducible exact ih6 _ _ _ _ _ _ _ _)
      | (with_reducible exact peaveylaw10_Ints.mono _ _ _)
      | (with_reducible exact peaveyref10_Choices.mono _ _ _)
      | (with_reducible exact peaveyref10_IsSample.mono _ _ _)
      | (with_reducible exact LeO.refl _)
      | (with_reducible exact LeO.none _)
      | (with_reducible refine LeO.ite ?_ ?_)
      | (with_reducible refine LeO.bind ?_ (fun _ => ?_))
      | exact ih0 _ _ _ _ _ _ _
      | exact ih1 _ _ _ _ _ _ _ _
      | exact ih2 _ _ _ _ _ _ _ _
      | exact ih3 _ _ _
      | exact ih4 _ _ _ _ _
      | exact ih5 _ _ _ _ _ _ _
      | exact ih6 _ _ _ _ _ _ _ _
      | exact peaveylaw10_Ints.mono _ _ _
      | exact peaveyref10_Choices.mono _ _ _
      | exact peaveyref10_IsSample.mono _ _ _
      | exact LeO.none _
      | refine LeO.ite ?_ ?_
      | refine LeO.bind ?_ (fun _ => ?_)
    · intro y0 y1 y2 y3 y4
      unfold peaveylaw10_CheckDrawn.l1
      repeat' first
      | (with_reducible exact ih0 _ _ _ _ _ _ _)
      | (with_reducible exact ih1 _ _ _ _ _ _ _ _)
      | (with_reducible exact ih2 _ _ _ _ _ _ _ _)
      | (with_reducible exact ih3 _ _ _)
      | (with_reducible exact ih4 _ _ _ _ _)
      | (with_reducible exact ih5 _ _ _ _ _ _ _)
      | (with_reducible exact ih6 _ _ _ _ _ _ _ _)
      | (with_reducible exact peaveylaw10_Ints.mono _ _ _)
      | (with_reducible exact peaveyref10_Choices.mono _ _ _)
      | (with_reducible exact peaveyref10_IsSample.mono _ _ _)
      | (with_reducible exact LeO.refl _)
      | (with_reducible exact LeO.none _)
      | (with_reducible refine LeO.ite ?_ ?_)
      | (with_reducible refine LeO.bind ?_ (fun _ => ?_))
      | exact ih0 _ _ _ _ _ _ _
      | exact ih1 _ _ _ _ _ _ _ _
      | exact ih2 _ _ _ _ _ _ _ _
      | exact ih3 _ _ _
      | exact ih4 _ _ _ _ _
      | exact ih5 _ _ _ _ _ _ _
      | exact ih6 _ _ _ _ _ _ _ _
      | exact peaveylaw10_Ints.mono _ _ _
      | exact peaveyref10_Choices.mono _ _ _
      | exact peaveyref10_IsSample.mono _ _ _
      | exact LeO.none _
      | refine LeO.ite ?_ ?_
      | refine LeO.bind ?_ (fun _ => ?_)
    · intro y0 y1 y2 y3 y4 y5 y6
      unfold peaveylaw10_CheckDrawn.j6
      repeat' first
      | (with_reducible exact ih0 _ _ _ _ _ _ _)
      | (with_reducible exact ih1 _ _ _ _ _ _ _ _)
      | (with_reducible exact ih2 _ _ _ _ _ _ _ _)
      | (with_reducible exact ih3 _ _ _)
      | (with_reducible exact ih4 _ _ _ _ _)
      | (with_reducible exact ih5 _ _ _ _ _ _ _)
      | (with_reducible exact ih6 _ _ _ _ _ _ _ _)
      | (with_reducible exact peaveylaw10_Ints.mono _ _ _)
      | (with_reducible exact peaveyref10_Choices.mono _ _ _)
      | (with_reducible exact peaveyref10_IsSample.mono _ _ _)
      | (with_reducible exact LeO.refl _)
      | (with_reducible exact LeO.none _)
      | (with_reducible refine LeO.ite ?_ ?_)
      | (with_reducible refine LeO.bind ?_ (fun _ => ?_))
      | exact ih0 _ _ _ _ _ _ _
      | exact ih1 _ _ _ _ _ _ _ _
      | exact ih2 _ _ _ _ _ _ _ _
      | exact ih3 _ _ _
      | exact ih4 _ _ _ _ _
      | exact ih5 _ _ _ _ _ _ _
      | exact ih6 _ _ _ _ _ _ _ _
      | exact peaveylaw10_Ints.mono _ _ _
      | exact peaveyref10_Choices.mono _ _ _
      | exact peaveyref10_IsSample.mono _ _ _
      | exact LeO.none _
      | refine LeO.ite ?_ ?_
      | refine LeO.bind ?_ (fun _ => ?_)
    · intro y0 y1 y2 y3 y4 y5 y6 y7
      unfold peaveylaw10_CheckDrawn.l0
      repeat' first
      | (with_reducible exact ih0 _ _ _ _ _ _ _)
      | (with_reducible exact ih1 _ _ _ _ _ _ _ _)
      | (with_reducible exact ih2 _ _ _ _ _ _ _ _)
      | (with_reducible exact ih3 _ _ _)
      | (with_reducible exact ih4 _ _ _ _ _)
      | (with_reducible exact ih5 _ _ _ _ _ _ _)
      | (with_reducible exact ih6 _ _ _ _ _ _ _ _)
      | (with_reducible exact peaveylaw10_Ints.mono _ _ _)
      | (with_reducible exact peaveyref10_Choices.mono _ _ _)
      | (with_reducible exact peaveyref10_IsSample.mono _ _ _)
      | (with_reducible exact LeO.refl _)
      | (with_reducible exact LeO.none _)
      | (with_reducible refine LeO.ite ?_ ?_)
      | (with_reducible refine LeO.bind ?_ (fun _ => ?_))
      | exact ih0 _ _ _ _ _ _ _
      | exact ih1 _ _ _ _ _ _ _ _
      | exact ih2 _ _ _ _ _ _ _ _
      | exact ih3 _ _ _
      | exact ih4 _ _ _ _ _
      | exact ih5 _ _ _ _ _ _ _
      | exact ih6 _ _ _ _ _ _ _ _
      | exact peaveylaw10_Ints.mono _ _ _
      | exact peaveyref10_Choices.mono _ _ _
      | exact peaveyref10_IsSample.mono _ _ _
      | exact LeO.none _
      | refine LeO.ite ?_ ?_
      | refine LeO.bind ?_ (fun _ => ?_)
theorem peaveylaw10_CheckDrawn.mono : ∀ a0 a1 a2 a3 a4 k, LeO (peaveylaw10_CheckDrawn.f k a0 a1 a2 a3 a4) (peaveylaw10_CheckDrawn.f (k + 1) a0 a1 a2 a3 a4) := by
  intro a0 a1 a2 a3 a4 k
  obtain ⟨ih0, ih1, ih2, ih3, ih4, ih5, ih6⟩ := peaveylaw10_CheckDrawn.mono_l k
  unfold peaveylaw10_CheckDrawn.f
  repeat' first
      | (with_reducible exact ih0 _ _ _ _ _ _ _)
      | (with_reducible exact ih1 _ _ _ _ _ _ _ _)
      | (with_reducible exact ih2 _ _ _ _ _ _ _ _)
      | (with_reducible exact ih3 _ _ _)
      | (with_reducible exact ih4 _ _ _ _ _)
      | (with_reducible exact ih5 _ _ _ _ _ _ _)
      | (with_reducible exact ih6 _ _ _ _ _ _ _ _)
      | (with_reducible exact peaveylaw10_Ints.mono _ _ _)
      | (with_reducible exact peaveyref10_Choices.mono _ _ _)
      | (with_reducible exact peaveyref10_IsSample.mono _ _ _)
      | (with_reducible exact LeO.refl _)
      | (with_reducible exact LeO.none _)
      | (with_reducible refine LeO.ite ?_ ?_)
      | (with_reducible refine LeO.bind ?_ (fun _ => ?_))
      | exact ih0 _ _ _ _ _ _ _
      | exact ih1 _ _ _ _ _ _ _ _
      | exact ih2 _ _ _ _ _ _ _ _
      | exact ih3 _ _ _
      | exact ih4 _ _ _ _ _
      | exact ih5 _ _ _ _ _ _ _
      | exact ih6 _ _ _ _ _ _ _ _
      | exact peaveylaw10_Ints.mono _ _ _
      | exact peaveyref10_Choices.mono _ _ _
      | exact peaveyref10_IsSample.mono _ _ _
      | exact LeO.none _
      | refine LeO.ite ?_ ?_
      | refine LeO.bind ?_ (fun _ => ?_)
set_option maxHeartbeats 8000000 in
set_option maxRecDepth 100000 in
theorem peaveylaw10_CheckDrawn.calls (k : Nat) (a0 : Int) (a1 : Int) (a2 : Int) (a3 : Int) (a4 : Int) (r : Bool) (w : World) (h : peaveylaw10_CheckDrawn.f k a0 a1 a2 a3 a4 = some r) :
  Calls Try.prog 11 #[.int .u8 a0, .int .u8 a1, .int .u64 a2, .int .u64 a3, .int .u64 a4] w fun e w' => e = .returned (.bool r) ∧ Below w.heap.size w w' := by
 have HB := Aside0.mk (Below.refl w.heap.size w)
 have H : ((peaveylaw10_boom.f a0 0 a1 0).bind fun bt101 => ((check_Choose.f bt101.1 bt101.2.2.1).bind fun bt105 => (if bt105.2 = 0 then ((peaveyref10_Choices.f k bt101.1 bt101.2.2.1).bind fun t107 => (peaveylaw10_CheckDrawn.j0 k a2 a3 a4 bt101.1 bt101.2.2.1 bt105.1 (bt105.1 != t107))) else (peaveylaw10_CheckDrawn.j0 k a2 a3 a4 bt101.1 bt101.2.2.1 bt105.1 true)))) = some r := h
 clear h
 replace H := Option.bind_eq_some_iff.mp H
 obtain ⟨⟨t101, t102, t103, t104⟩, A60, H⟩ := H
 replace H : ((check_Choose.f t101 t103).bind fun bt105 => (if bt105.2 = 0 then ((peaveyref10_Choices.f k t101 t103).bind fun t107 => (peaveylaw10_CheckDrawn.j0 k a2 a3 a4 t101 t103 bt105.1 (bt105.1 != t107))) else (peaveylaw10_CheckDrawn.j0 k a2 a3 a4 t101 t103 bt105.1 true))) = some r := H
 have A6 := Aside0.mk A60
 clear A60
 replace H := Option.bind_eq_some_iff.mp H
 obtain ⟨⟨t105, t106⟩, A70, H⟩ := H
 replace H : (if t106 = 0 then ((peaveyref10_Choices.f k t101 t103).bind fun t107 => (peaveylaw10_CheckDrawn.j0 k a2 a3 a4 t101 t103 t105 (t105 != t107))) else (peaveylaw10_CheckDrawn.j0 k a2 a3 a4 t101 t103 t105 true)) = some r := H
 have A7 := Aside0.mk A70
 clear A70
 have HC8 := Aside0.mk H
 clear H
 go_enter Try.func11, Try.ntmps11
 go_upto_region 3 with (first | (go_at_call 43; (with_reducible refine (peaveylaw10_boom.calls a0 0 a1 0 t101 t102 t103 t104 _ A6.out).mono ?_); rintro e w' ⟨rfl, ⟨nd, rfl⟩⟩; (try first | exact ⟨rfl, _, World.drewN_drewN _ _ _⟩ | exact ⟨rfl, _, Eq.trans (World.drewN_drewN _ _ _) (congrArg (World.drewN _) (Nat.add_assoc _ _ _))⟩)) | (go_at_call 17; (with_reducible refine (check_Choose.calls t101 t103 t105 t106 _ A7.out).mono ?_); rintro e w9 ⟨rfl, hb⟩; have n0_ := Aside0.mk (below_step (by repeat (first | (with_reducible first | exact HB.out | apply below_alloc | apply pw_below_drewN | apply below_drew1) | exact HB.out)) hb); clear HB; have HB := n0_; clear n0_; (try clear hb); (try clear hb2); (try clear hk); (try clear hi)))
 repeat (go_quiet (first | (go_at_call 43; (with_reducible refine (peaveylaw10_boom.calls a0 0 a1 0 t101 t102 t103 t104 _ A6.out).mono ?_); rintro e w' ⟨rfl, ⟨nd, rfl⟩⟩; (try first | exact ⟨rfl, _, World.drewN_drewN _ _ _⟩ | exact ⟨rfl, _, Eq.trans (World.drewN_drewN _ _ _) (congrArg (World.drewN _) (Nat.add_assoc _ _ _))⟩)) | (go_at_call 17; (with_reducible refine (check_Choose.calls t101 t103 t105 t106 _ A7.out).mono ?_); rintro e w9 ⟨rfl, hb⟩; have n0_ := Aside0.mk (below_step (by repeat (first | (with_reducible first | exact HB.out | apply below_alloc | apply pw_below_drewN | apply below_drew1) | exact HB.out)) hb); clear HB; have HB := n0_; clear n0_; (try clear hb); (try clear hb2); (try clear hk); (try clear hi))); go_upto_region 3 with (first | (go_at_call 43; (with_reducible refine (peaveylaw10_boom.calls a0 0 a1 0 t101 t102 t103 t104 _ A6.out).mono ?_); rintro e w' ⟨rfl, ⟨nd, rfl⟩⟩; (try first | exact ⟨rfl, _, World.drewN_drewN _ _ _⟩ | exact ⟨rfl, _, Eq.trans (World.drewN_drewN _ _ _) (congrArg (World.drewN _) (Nat.add_assoc _ _ _))⟩)) | (go_at_call 17; (with_reducible refine (check_Choose.calls t101 t103 t105 t106 _ A7.out).mono ?_); rintro e w9 ⟨rfl, hb⟩; have n0_ := Aside0.mk (below_step (by repeat (first | (with_reducible first | exact HB.out | apply below_alloc | apply pw_below_drewN | apply below_drew1) | exact HB.out)) hb); clear HB; have HB := n0_; clear n0_; (try clear hb); (try clear hb2); (try clear hk); (try clear hi))))
 (try simp only [Act.put, List.setIfInBounds_toArray, List.set_cons_zero, List.set_cons_succ])
 go_cut [52] (fun v52 wc => ∃ (kq : Nat) (x52_7 : Bool), v52 = .bool x52_7 ∧ Aside0 (peaveylaw10_CheckDrawn.j0 kq a2 a3 a4 t101 t103 t105 x52_7 = some r) ∧ Aside0 (kq ≤ k) ∧ Aside0 (Below w.heap.size w wc))
 case first =>
  have H := HC8.out
  clear HC8
  by_cases c10 : t106 = 0
  · as_aux_lemma =>
   rw [if_pos c10] at H
   have c10b0 : (t106 == 0) = true := beq_iff_eq.mpr c10
   have c10b1 : (t106 != 0) = false := bne_eq_false_iff_eq.mpr c10
   clear c10
   (first | rw [c10b0] | (simp only [i64_w, i32_w]; rw [c10b0]) | skip)
   replace H := Option.bind_eq_some_iff.mp H
   obtain ⟨t107, A110, H⟩ := H
   replace H : (peaveylaw10_CheckDrawn.j0 k a2 a3 a4 t101 t103 t105 (t105 != t107)) = some r := H
   have A11 := Aside0.mk A110
   clear A110
   as_aux_lemma =>
    have H' := Aside0.mk H
    clear H
    go_wp2_with (first | (go_at_call 46; (with_reducible refine (peaveyref10_Choices.calls k t101 t103 t107 _ A11.out).mono ?_); rintro e w' ⟨rfl, ⟨nd, rfl⟩⟩; (try first | exact ⟨rfl, _, World.drewN_drewN _ _ _⟩ | exact ⟨rfl, _, Eq.trans (World.drewN_drewN _ _ _) (congrArg (World.drewN _) (Nat.add_assoc _ _ _))⟩)))
    repeat (go_quiet (first | (go_at_call 46; (with_reducible refine (peaveyref10_Choices.calls k t101 t103 t107 _ A11.out).mono ?_); rintro e w' ⟨rfl, ⟨nd, rfl⟩⟩; (try first | exact ⟨rfl, _, World.drewN_drewN _ _ _⟩ | exact ⟨rfl, _, Eq.trans (World.drewN_drewN _ _ _) (congrArg (World.drewN _) (Nat.add_assoc _ _ _))⟩))); try go_wp2_with (first | (go_at_call 46; (with_reducible refine (peaveyref10_Choices.calls k t101 t103 t107 _ A11.out).mono ?_); rintro e w' ⟨rfl, ⟨nd, rfl⟩⟩; (try first | exact ⟨rfl, _, World.drewN_drewN _ _ _⟩ | exact ⟨rfl, _, Eq.trans (World.drewN_drewN _ _ _) (congrArg (World.drewN _) (Nat.add_assoc _ _ _))⟩))))
    go_meet
    case rel => exact ⟨_, ((t105 != t107)), (by first | rfl | (simp; done) | (simp [*]; done)), H', ⟨by first | omega | exact Nat.le_refl _⟩, ⟨by repeat (first | (with_reducible first | exact HB.out | apply below_alloc | apply pw_below_drewN | apply below_drew1) | exact HB.out)⟩⟩
  · as_aux_lemma =>
   rw [if_neg c10] at H
   have c10b0 : (t106 == 0) = false := beq_eq_false_iff_ne.mpr c10
   have c10b1 : (t106 != 0) = true := bne_iff_ne.mpr c10
   (first | rw [c10b0] | (simp only [i64_w, i32_w]; rw [c10b0]) | skip)
   as_aux_lemma =>
    have H' := Aside0.mk H
    clear H
    go_wp2
    repeat (go_quiet (fail); try go_wp2)
    go_meet
    case rel => exact ⟨_, (true), (by first | rfl | (simp; done) | (simp [*]; done)), H', ⟨by first | omega | exact Nat.le_refl _⟩, ⟨by repeat (first | (with_reducible first | exact HB.out | apply below_alloc | apply pw_below_drewN | apply below_drew1) | exact HB.out)⟩⟩
 case rest =>
  clear HC8
  try clear c1
  try clear p2
  try clear c10
  try clear c10b0
  try clear c10b1
  try clear c11
  obtain ⟨kq, x52_7, rfl, HA, HJ7, HB⟩ := hcut
  cases kq with
  | zero => exact absurd HA.out (by simp [peaveylaw10_CheckDrawn.j0])
  | succ kj7 =>
   have H := HA.out
   clear HA
   simp only [peaveylaw10_CheckDrawn.j0] at H
   by_cases c12 : x52_7 = true
   · as_aux_lemma =>
    subst c12
    have H1 : (some false) = some r := by rw [if_pos rfl] at H; exact H
    clear H
    have H := H1
    clear H1
    as_aux_lemma =>
     obtain rfl := Option.some.inj H
     go_wp2
     repeat (go_quiet (fail); try go_wp2)
     go_ret
     exact ⟨by first | rfl | (simp [errW_none, errW_some] <;> rfl) | (simp [*, errW_none, errW_some] <;> rfl), by repeat (first | (with_reducible first | exact HB.out | apply below_alloc | apply pw_below_drewN | apply below_drew1) | exact HB.out)⟩
   · as_aux_lemma =>
    replace c12 := Bool.eq_false_iff.mpr c12
    subst c12
    have H1 : (if (IntKind.u64.wrap (t105)) = 0 then (none) else ((check_Draw.f t101 t103 (wrap64 (Int.tmod a2 (IntKind.u64.wrap (t105))))).bind fun bt108 => ((check_Draw.f t101 t103 (wrap64 (Int.tmod a3 (IntKind.u64.wrap (t105))))).bind fun bt112 => (if bt108.2 = 0 then (if bt112.2 = 0 then (if (bt108.1.length : Int) = t103 then (if (bt112.1.length : Int) = t103 then ((peaveyref10_IsSample.f kj7 t101 bt108.1).bind fun t116 => (if t116 = true then ((peaveyref10_IsSample.f kj7 t101 bt112.1).bind fun t117 => (peaveylaw10_CheckDrawn.j1 kj7 a4 t101 t103 (wrap64 (Int.tmod a2 (IntKind.u64.wrap (t105)))) (wrap64 (Int.tmod a3 (IntKind.u64.wrap (t105)))) bt108.1 bt112.1 (!t117))) else (peaveylaw10_CheckDrawn.j1 kj7 a4 t101 t103 (wrap64 (Int.tmod a2 (IntKind.u64.wrap (t105)))) (wrap64 (Int.tmod a3 (IntKind.u64.wrap (t105)))) bt108.1 bt112.1 true))) else (peaveylaw10_CheckDrawn.j1 kj7 a4 t101 t103 (wrap64 (Int.tmod a2 (IntKind.u64.wrap (t105)))) (wrap64 (Int.tmod a3 (IntKind.u64.wrap (t105)))) bt108.1 bt112.1 true)) else (peaveylaw10_CheckDrawn.j1 kj7 a4 t101 t103 (wrap64 (Int.tmod a2 (IntKind.u64.wrap (t105)))) (wrap64 (Int.tmod a3 (IntKind.u64.wrap (t105)))) bt108.1 bt112.1 true)) else (peaveylaw10_CheckDrawn.j1 kj7 a4 t101 t103 (wrap64 (Int.tmod a2 (IntKind.u64.wrap (t105)))) (wrap64 (Int.tmod a3 (IntKind.u64.wrap (t105)))) bt108.1 bt112.1 true)) else (peaveylaw10_CheckDrawn.j1 kj7 a4 t101 t103 (wrap64 (Int.tmod a2 (IntKind.u64.wrap (t105)))) (wrap64 (Int.tmod a3 (IntKind.u64.wrap (t105)))) bt108.1 bt112.1 true))))) = some r := by rw [if_neg (show ¬ (false = true) by decide)] at H; exact H
    clear H
    have H := H1
    clear H1
    by_cases c13 : (IntKind.u64.wrap (t105)) = 0
    · as_aux_lemma =>
     rw [if_pos c13] at H
     exact absurd H (by simp)
    · as_aux_lemma =>
     rw [if_neg c13] at H
     have c13b0 : ((IntKind.u64.wrap (t105)) == 0) = false := beq_eq_false_iff_ne.mpr c13
     have c13b1 : ((IntKind.u64.wrap (t105)) != 0) = true := bne_iff_ne.mpr c13
     replace H := Option.bind_eq_some_iff.mp H
     obtain ⟨⟨t108, t109⟩, A140, H⟩ := H
     replace H : ((check_Draw.f t101 t103 (wrap64 (Int.tmod a3 (IntKind.u64.wrap (t105))))).bind fun bt112 => (if t109 = 0 then (if bt112.2 = 0 then (if (t108.length : Int) = t103 then (if (bt112.1.length : Int) = t103 then ((peaveyref10_IsSample.f kj7 t101 t108).bind fun t116 => (if t116 = true then ((peaveyref10_IsSample.f kj7 t101 bt112.1).bind fun t117 => (peaveylaw10_CheckDrawn.j1 kj7 a4 t101 t103 (wrap64 (Int.tmod a2 (IntKind.u64.wrap (t105)))) (wrap64 (Int.tmod a3 (IntKind.u64.wrap (t105)))) t108 bt112.1 (!t117))) else (peaveylaw10_CheckDrawn.j1 kj7 a4 t101 t103 (wrap64 (Int.tmod a2 (IntKind.u64.wrap (t105)))) (wrap64 (Int.tmod a3 (IntKind.u64.wrap (t105)))) t108 bt112.1 true))) else (peaveylaw10_CheckDrawn.j1 kj7 a4 t101 t103 (wrap64 (Int.tmod a2 (IntKind.u64.wrap (t105)))) (wrap64 (Int.tmod a3 (IntKind.u64.wrap (t105)))) t108 bt112.1 true)) else (peaveylaw10_CheckDrawn.j1 kj7 a4 t101 t103 (wrap64 (Int.tmod a2 (IntKind.u64.wrap (t105)))) (wrap64 (Int.tmod a3 (IntKind.u64.wrap (t105)))) t108 bt112.1 true)) else (peaveylaw10_CheckDrawn.j1 kj7 a4 t101 t103 (wrap64 (Int.tmod a2 (IntKind.u64.wrap (t105)))) (wrap64 (Int.tmod a3 (IntKind.u64.wrap (t105)))) t108 bt112.1 true)) else (peaveylaw10_CheckDrawn.j1 kj7 a4 t101 t103 (wrap64 (Int.tmod a2 (IntKind.u64.wrap (t105)))) (wrap64 (Int.tmod a3 (IntKind.u64.wrap (t105)))) t108 bt112.1 true))) = some r := H
     have A14 := Aside0.mk A140
     clear A140
     replace H := Option.bind_eq_some_iff.mp H
     obtain ⟨⟨t112, t113⟩, A150, H⟩ := H
     replace H : (if t109 = 0 then (if t113 = 0 then (if (t108.length : Int) = t103 then (if (t112.length : Int) = t103 then ((peaveyref10_IsSample.f kj7 t101 t108).bind fun t116 => (if t116 = true then ((peaveyref10_IsSample.f kj7 t101 t112).bind fun t117 => (peaveylaw10_CheckDrawn.j1 kj7 a4 t101 t103 (wrap64 (Int.tmod a2 (IntKind.u64.wrap (t105)))) (wrap64 (Int.tmod a3 (IntKind.u64.wrap (t105)))) t108 t112 (!t117))) else (peaveylaw10_CheckDrawn.j1 kj7 a4 t101 t103 (wrap64 (Int.tmod a2 (IntKind.u64.wrap (t105)))) (wrap64 (Int.tmod a3 (IntKind.u64.wrap (t105)))) t108 t112 true))) else (peaveylaw10_CheckDrawn.j1 kj7 a4 t101 t103 (wrap64 (Int.tmod a2 (IntKind.u64.wrap (t105)))) (wrap64 (Int.tmod a3 (IntKind.u64.wrap (t105)))) t108 t112 true)) else (peaveylaw10_CheckDrawn.j1 kj7 a4 t101 t103 (wrap64 (Int.tmod a2 (IntKind.u64.wrap (t105)))) (wrap64 (Int.tmod a3 (IntKind.u64.wrap (t105)))) t108 t112 true)) else (peaveylaw10_CheckDrawn.j1 kj7 a4 t101 t103 (wrap64 (Int.tmod a2 (IntKind.u64.wrap (t105)))) (wrap64 (Int.tmod a3 (IntKind.u64.wrap (t105)))) t108 t112 true)) else (peaveylaw10_CheckDrawn.j1 kj7 a4 t101 t103 (wrap64 (Int.tmod a2 (IntKind.u64.wrap (t105)))) (wrap64 (Int.tmod a3 (IntKind.u64.wrap (t105)))) t108 t112 true)) = some r := H
     have A15 := Aside0.mk A150
     clear A150
     have HC16 := Aside0.mk H
     clear H
     go_upto_region 8 with (first | (go_at_call 26; (with_reducible refine (check_Draw.calls t101 t103 (wrap64 (Int.tmod a2 (IntKind.u64.wrap (t105)))) t108 t109 _ A14.out).mono ?_); rintro e w17 ⟨v110, rfl, ho0, hb⟩; have n0_ := Aside0.mk (Kd.R_lower ho0 (below_size (by repeat (first | (with_reducible first | exact HB.out | apply below_alloc | apply pw_below_drewN | apply below_drew1) | exact HB.out)))); have n1_ := Aside0.mk (below_step (by repeat (first | (with_reducible first | exact HB.out | apply below_alloc | apply pw_below_drewN | apply below_drew1) | exact HB.out)) hb); clear HB; have HO111 := n0_; have HB := n1_; clear n0_ n1_; (try clear hb); (try clear hb2); (try clear hk); (try clear hi); (try clear ho0)) | (go_at_call 26; (with_reducible refine (check_Draw.calls t101 t103 (wrap64 (Int.tmod a3 (IntKind.u64.wrap (t105)))) t112 t113 _ A15.out).mono ?_); rintro e w18 ⟨v114, rfl, ho0, hb⟩; have n0_ := Aside0.mk (Kd.R_elder' (by (with_reducible repeat (first | apply Kd.R_alloc | apply Kd.R_drewN | apply Kd.R_drew)); exact HO111.out) (Kd.R_base ho0) hb); have n1_ := Aside0.mk (Kd.R_lower (Kd.R_new' ho0 (Kd.R_lt (by (with_reducible repeat (first | apply Kd.R_alloc | apply Kd.R_drewN | apply Kd.R_drew)); exact HO111.out))) (below_size (by repeat (first | (with_reducible first | exact HB.out | apply below_alloc | apply pw_below_drewN | apply below_drew1) | exact HB.out)))); have n2_ := Aside0.mk (below_step (by repeat (first | (with_reducible first | exact HB.out | apply below_alloc | apply pw_below_drewN | apply below_drew1) | exact HB.out)) hb); clear HO111; clear HB; have HO111 := n0_; have HO115 := n1_; have HB := n2_; clear n0_ n1_ n2_; (try clear hb); (try clear hb2); (try clear hk); (try clear hi); (try clear ho0)))
     repeat (go_quiet (first | (go_at_call 26; (with_reducible refine (check_Draw.calls t101 t103 (wrap64 (Int.tmod a2 (IntKind.u64.wrap (t105)))) t108 t109 _ A14.out).mono ?_); rintro e w17 ⟨v110, rfl, ho0, hb⟩; have n0_ := Aside0.mk (Kd.R_lower ho0 (below_size (by repeat (first | (with_reducible first | exact HB.out | apply below_alloc | apply pw_below_drewN | apply below_drew1) | exact HB.out)))); have n1_ := Aside0.mk (below_step (by repeat (first | (with_reducible first | exact HB.out | apply below_alloc | apply pw_below_drewN | apply below_drew1) | exact HB.out)) hb); clear HB; have HO111 := n0_; have HB := n1_; clear n0_ n1_; (try clear hb); (try clear hb2); (try clear hk); (try clear hi); (try clear ho0)) | (go_at_call 26; (with_reducible refine (check_Draw.calls t101 t103 (wrap64 (Int.tmod a3 (IntKind.u64.wrap (t105)))) t112 t113 _ A15.out).mono ?_); rintro e w18 ⟨v114, rfl, ho0, hb⟩; have n0_ := Aside0.mk (Kd.R_elder' (by (with_reducible repeat (first | apply Kd.R_alloc | apply Kd.R_drewN | apply Kd.R_drew)); exact HO111.out) (Kd.R_base ho0) hb); have n1_ := Aside0.mk (Kd.R_lower (Kd.R_new' ho0 (Kd.R_lt (by (with_reducible repeat (first | apply Kd.R_alloc | apply Kd.R_drewN | apply Kd.R_drew)); exact HO111.out))) (below_size (by repeat (first | (with_reducible first | exact HB.out | apply below_alloc | apply pw_below_drewN | apply below_drew1) | exact HB.out)))); have n2_ := Aside0.mk (below_step (by repeat (first | (with_reducible first | exact HB.out | apply below_alloc | apply pw_below_drewN | apply below_drew1) | exact HB.out)) hb); clear HO111; clear HB; have HO111 := n0_; have HO115 := n1_; have HB := n2_; clear n0_ n1_ n2_; (try clear hb); (try clear hb2); (try clear hk); (try clear hi); (try clear ho0))); go_upto_region 8 with (first | (go_at_call 26; (with_reducible refine (check_Draw.calls t101 t103 (wrap64 (Int.tmod a2 (IntKind.u64.wrap (t105)))) t108 t109 _ A14.out).mono ?_); rintro e w17 ⟨v110, rfl, ho0, hb⟩; have n0_ := Aside0.mk (Kd.R_lower ho0 (below_size (by repeat (first | (with_reducible first | exact HB.out | apply below_alloc | apply pw_below_drewN | apply below_drew1) | exact HB.out)))); have n1_ := Aside0.mk (below_step (by repeat (first | (with_reducible first | exact HB.out | apply below_alloc | apply pw_below_drewN | apply below_drew1) | exact HB.out)) hb); clear HB; have HO111 := n0_; have HB := n1_; clear n0_ n1_; (try clear hb); (try clear hb2); (try clear hk); (try clear hi); (try clear ho0)) | (go_at_call 26; (with_reducible refine (check_Draw.calls t101 t103 (wrap64 (Int.tmod a3 (IntKind.u64.wrap (t105)))) t112 t113 _ A15.out).mono ?_); rintro e w18 ⟨v114, rfl, ho0, hb⟩; have n0_ := Aside0.mk (Kd.R_elder' (by (with_reducible repeat (first | apply Kd.R_alloc | apply Kd.R_drewN | apply Kd.R_drew)); exact HO111.out) (Kd.R_base ho0) hb); have n1_ := Aside0.mk (Kd.R_lower (Kd.R_new' ho0 (Kd.R_lt (by (with_reducible repeat (first | apply Kd.R_alloc | apply Kd.R_drewN | apply Kd.R_drew)); exact HO111.out))) (below_size (by repeat (first | (with_reducible first | exact HB.out | apply below_alloc | apply pw_below_drewN | apply below_drew1) | exact HB.out)))); have n2_ := Aside0.mk (below_step (by repeat (first | (with_reducible first | exact HB.out | apply below_alloc | apply pw_below_drewN | apply below_drew1) | exact HB.out)) hb); clear HO111; clear HB; have HO111 := n0_; have HO115 := n1_; have HB := n2_; clear n0_ n1_ n2_; (try clear hb); (try clear hb2); (try clear hk); (try clear hi); (try clear ho0))))
     (try simp only [Act.put, List.setIfInBounds_toArray, List.set_cons_zero, List.set_cons_succ])
     go_cut [106] (fun v106 wc => ∃ (kq : Nat) (x106_15 : Bool), v106 = .bool x106_15 ∧ Aside0 (peaveylaw10_CheckDrawn.j1 kq a4 t101 t103 (wrap64 (Int.tmod a2 (IntKind.u64.wrap (t105)))) (wrap64 (Int.tmod a3 (IntKind.u64.wrap (t105)))) t108 t112 x106_15 = some r) ∧ Aside0 (kq ≤ kj7) ∧ Aside0 (Kd.R (Kd.int .i64) 3 wc w.heap.size (fun k_ => some k_ ≠ (v114 : Value).ownBlock) v110 t108) ∧ Aside0 (Kd.R (Kd.int .i64) 3 wc w.heap.size (fun k_ => some k_ ≠ (v110 : Value).ownBlock) v114 t112) ∧ Aside0 (Below w.heap.size w wc))
     case first =>
      have H := HC16.out
      clear HC16
      by_cases c19 : t109 = 0
      · as_aux_lemma =>
       rw [if_pos c19] at H
       have c19b0 : (t109 == 0) = true := beq_iff_eq.mpr c19
       have c19b1 : (t109 != 0) = false := bne_eq_false_iff_eq.mpr c19
       clear c19
       (first | rw [c19b0] | (simp only [i64_w, i32_w]; rw [c19b0]) | skip)
       by_cases c20 : t113 = 0
       · as_aux_lemma =>
        rw [if_pos c20] at H
        have c20b0 : (t113 == 0) = true := beq_iff_eq.mpr c20
        have c20b1 : (t113 != 0) = false := bne_eq_false_iff_eq.mpr c20
        clear c20
        by_cases c21 : (t108.length : Int) = t103
        · as_aux_lemma =>
         rw [if_pos c21] at H
         have c21b0 : ((t108.length : Int) == t103) = true := beq_iff_eq.mpr c21
         have c21b1 : ((t108.length : Int) != t103) = false := bne_eq_false_iff_eq.mpr c21
         clear c21
         by_cases c22 : (t112.length : Int) = t103
         · as_aux_lemma =>
          rw [if_pos c22] at H
          have c22b0 : ((t112.length : Int) == t103) = true := beq_iff_eq.mpr c22
          have c22b1 : ((t112.length : Int) != t103) = false := bne_eq_false_iff_eq.mpr c22
          clear c22
          replace H := Option.bind_eq_some_iff.mp H
          obtain ⟨t116, A230, H⟩ := H
          replace H : (if t116 = true then ((peaveyref10_IsSample.f kj7 t101 t112).bind fun t117 => (peaveylaw10_CheckDrawn.j1 kj7 a4 t101 t103 (wrap64 (Int.tmod a2 (IntKind.u64.wrap (t105)))) (wrap64 (Int.tmod a3 (IntKind.u64.wrap (t105)))) t108 t112 (!t117))) else (peaveylaw10_CheckDrawn.j1 kj7 a4 t101 t103 (wrap64 (Int.tmod a2 (IntKind.u64.wrap (t105)))) (wrap64 (Int.tmod a3 (IntKind.u64.wrap (t105)))) t108 t112 true)) = some r := H
          have A23 := Aside0.mk A230
          clear A230
          by_cases c24 : t116 = true
          · as_aux_lemma =>
           subst c24
           have H1 : ((peaveyref10_IsSample.f kj7 t101 t112).bind fun t117 => (peaveylaw10_CheckDrawn.j1 kj7 a4 t101 t103 (wrap64 (Int.tmod a2 (IntKind.u64.wrap (t105)))) (wrap64 (Int.tmod a3 (IntKind.u64.wrap (t105)))) t108 t112 (!t117))) = some r := by rw [if_pos rfl] at H; exact H
           clear H
           have H := H1
           clear H1
           replace H := Option.bind_eq_some_iff.mp H
           obtain ⟨t117, A250, H⟩ := H
           replace H : (peaveylaw10_CheckDrawn.j1 kj7 a4 t101 t103 (wrap64 (Int.tmod a2 (IntKind.u64.wrap (t105)))) (wrap64 (Int.tmod a3 (IntKind.u64.wrap (t105)))) t108 t112 (!t117)) = some r := H
           have A25 := Aside0.mk A250
           clear A250
           as_aux_lemma =>
            have H' := Aside0.mk H
            clear H
            obtain ⟨Ao26, co26, eo26⟩ := Kd.R_slice HO111.out
            subst eo26
            obtain ⟨Ao27, co27, eo27⟩ := Kd.R_slice HO115.out
            subst eo27
            go_wp2_with (first | (go_at_call 47; (with_reducible refine (peaveyref10_IsSample.calls kj7 t101 _ _ t108 true _ ?side1 ?side2 A23.out).mono ?_); (case side1 => repeat (first | exact (Kd.R_reads' HO111.out).2.2 | (with_reducible refine Kd.C_alloc ?_ _) | (with_reducible refine Kd.C_drewN ?_ _) | (with_reducible refine Kd.C_drew ?_))); (case side2 => exact (Kd.R_reads' HO111.out).2.1); rintro e w' ⟨rfl, ⟨nd, rfl⟩⟩; (try first | exact ⟨rfl, _, World.drewN_drewN _ _ _⟩ | exact ⟨rfl, _, Eq.trans (World.drewN_drewN _ _ _) (congrArg (World.drewN _) (Nat.add_assoc _ _ _))⟩)) | (go_at_call 47; (with_reducible refine (peaveyref10_IsSample.calls kj7 t101 _ _ t112 t117 _ ?side1 ?side2 A25.out).mono ?_); (case side1 => repeat (first | exact (Kd.R_reads' HO115.out).2.2 | (with_reducible refine Kd.C_alloc ?_ _) | (with_reducible refine Kd.C_drewN ?_ _) | (with_reducible refine Kd.C_drew ?_))); (case side2 => exact (Kd.R_reads' HO115.out).2.1); rintro e w' ⟨rfl, ⟨nd, rfl⟩⟩; (try first | exact ⟨rfl, _, World.drewN_drewN _ _ _⟩ | exact ⟨rfl, _, Eq.trans (World.drewN_drewN _ _ _) (congrArg (World.drewN _) (Nat.add_assoc _ _ _))⟩)))
            repeat (go_quiet (first | (go_at_call 47; (with_reducible refine (peaveyref10_IsSample.calls kj7 t101 _ _ t108 true _ ?side1 ?side2 A23.out).mono ?_); (case side1 => repeat (first | exact (Kd.R_reads' HO111.out).2.2 | (with_reducible refine Kd.C_alloc ?_ _) | (with_reducible refine Kd.C_drewN ?_ _) | (with_reducible refine Kd.C_drew ?_))); (case side2 => exact (Kd.R_reads' HO111.out).2.1); rintro e w' ⟨rfl, ⟨nd, rfl⟩⟩; (try first | exact ⟨rfl, _, World.drewN_drewN _ _ _⟩ | exact ⟨rfl, _, Eq.trans (World.drewN_drewN _ _ _) (congrArg (World.drewN _) (Nat.add_assoc _ _ _))⟩)) | (go_at_call 47; (with_reducible refine (peaveyref10_IsSample.calls kj7 t101 _ _ t112 t117 _ ?side1 ?side2 A25.out).mono ?_); (case side1 => repeat (first | exact (Kd.R_reads' HO115.out).2.2 | (with_reducible refine Kd.C_alloc ?_ _) | (with_reducible refine Kd.C_drewN ?_ _) | (with_reducible refine Kd.C_drew ?_))); (case side2 => exact (Kd.R_reads' HO115.out).2.1); rintro e w' ⟨rfl, ⟨nd, rfl⟩⟩; (try first | exact ⟨rfl, _, World.drewN_drewN _ _ _⟩ | exact ⟨rfl, _, Eq.trans (World.drewN_drewN _ _ _) (congrArg (World.drewN _) (Nat.add_assoc _ _ _))⟩))); try go_wp2_with (first | (go_at_call 47; (with_reducible refine (peaveyref10_IsSample.calls kj7 t101 _ _ t108 true _ ?side1 ?side2 A23.out).mono ?_); (case side1 => repeat (first | exact (Kd.R_reads' HO111.out).2.2 | (with_reducible refine Kd.C_alloc ?_ _) | (with_reducible refine Kd.C_drewN ?_ _) | (with_reducible refine Kd.C_drew ?_))); (case side2 => exact (Kd.R_reads' HO111.out).2.1); rintro e w' ⟨rfl, ⟨nd, rfl⟩⟩; (try first | exact ⟨rfl, _, World.drewN_drewN _ _ _⟩ | exact ⟨rfl, _, Eq.trans (World.drewN_drewN _ _ _) (congrArg (World.drewN _) (Nat.add_assoc _ _ _))⟩)) | (go_at_call 47; (with_reducible refine (peaveyref10_IsSample.calls kj7 t101 _ _ t112 t117 _ ?side1 ?side2 A25.out).mono ?_); (case side1 => repeat (first | exact (Kd.R_reads' HO115.out).2.2 | (with_reducible refine Kd.C_alloc ?_ _) | (with_reducible refine Kd.C_drewN ?_ _) | (with_reducible refine Kd.C_drew ?_))); (case side2 => exact (Kd.R_reads' HO115.out).2.1); rintro e w' ⟨rfl, ⟨nd, rfl⟩⟩; (try first | exact ⟨rfl, _, World.drewN_drewN _ _ _⟩ | exact ⟨rfl, _, Eq.trans (World.drewN_drewN _ _ _) (congrArg (World.drewN _) (Nat.add_assoc _ _ _))⟩))))
            go_meet
            case rel => exact ⟨_, (!t117), (by first | rfl | (simp; done) | (simp [*]; done)), H', ⟨by have := HJ7.out; first | omega | exact Nat.le_refl _⟩, ⟨by (with_reducible repeat (first | apply Kd.R_alloc | apply Kd.R_drewN | apply Kd.R_drew)); exact Kd.R_mono HO111.out (fun _ hk => hk.2)⟩, ⟨by (with_reducible repeat (first | apply Kd.R_alloc | apply Kd.R_drewN | apply Kd.R_drew)); exact Kd.R_mono HO115.out (fun _ hk => hk.2)⟩, ⟨by repeat (first | (with_reducible first | exact HB.out | apply below_alloc | apply pw_below_drewN | apply below_drew1) | exact HB.out)⟩⟩
          · as_aux_lemma =>
           replace c24 := Bool.eq_false_iff.mpr c24
           subst c24
           have H1 : (peaveylaw10_CheckDrawn.j1 kj7 a4 t101 t103 (wrap64 (Int.tmod a2 (IntKind.u64.wrap (t105)))) (wrap64 (Int.tmod a3 (IntKind.u64.wrap (t105)))) t108 t112 true) = some r := by rw [if_neg (show ¬ (false = true) by decide)] at H; exact H
           clear H
           have H := H1
           clear H1
           as_aux_lemma =>
            have H' := Aside0.mk H
            clear H
            obtain ⟨Ao28, co28, eo28⟩ := Kd.R_slice HO111.out
            subst eo28
            obtain ⟨Ao29, co29, eo29⟩ := Kd.R_slice HO115.out
            subst eo29
            go_wp2_with (first | (go_at_call 47; (with_reducible refine (peaveyref10_IsSample.calls kj7 t101 _ _ t108 false _ ?side1 ?side2 A23.out).mono ?_); (case side1 => repeat (first | exact (Kd.R_reads' HO111.out).2.2 | (with_reducible refine Kd.C_alloc ?_ _) | (with_reducible refine Kd.C_drewN ?_ _) | (with_reducible refine Kd.C_drew ?_))); (case side2 => exact (Kd.R_reads' HO111.out).2.1); rintro e w' ⟨rfl, ⟨nd, rfl⟩⟩; (try first | exact ⟨rfl, _, World.drewN_drewN _ _ _⟩ | exact ⟨rfl, _, Eq.trans (World.drewN_drewN _ _ _) (congrArg (World.drewN _) (Nat.add_assoc _ _ _))⟩)))
            repeat (go_quiet (first | (go_at_call 47; (with_reducible refine (peaveyref10_IsSample.calls kj7 t101 _ _ t108 false _ ?side1 ?side2 A23.out).mono ?_); (case side1 => repeat (first | exact (Kd.R_reads' HO111.out).2.2 | (with_reducible refine Kd.C_alloc ?_ _) | (with_reducible refine Kd.C_drewN ?_ _) | (with_reducible refine Kd.C_drew ?_))); (case side2 => exact (Kd.R_reads' HO111.out).2.1); rintro e w' ⟨rfl, ⟨nd, rfl⟩⟩; (try first | exact ⟨rfl, _, World.drewN_drewN _ _ _⟩ | exact ⟨rfl, _, Eq.trans (World.drewN_drewN _ _ _) (congrArg (World.drewN _) (Nat.add_assoc _ _ _))⟩))); try go_wp2_with (first | (go_at_call 47; (with_reducible refine (peaveyref10_IsSample.calls kj7 t101 _ _ t108 false _ ?side1 ?side2 A23.out).mono ?_); (case side1 => repeat (first | exact (Kd.R_reads' HO111.out).2.2 | (with_reducible refine Kd.C_alloc ?_ _) | (with_reducible refine Kd.C_drewN ?_ _) | (with_reducible refine Kd.C_drew ?_))); (case side2 => exact (Kd.R_reads' HO111.out).2.1); rintro e w' ⟨rfl, ⟨nd, rfl⟩⟩; (try first | exact ⟨rfl, _, World.drewN_drewN _ _ _⟩ | exact ⟨rfl, _, Eq.trans (World.drewN_drewN _ _ _) (congrArg (World.drewN _) (Nat.add_assoc _ _ _))⟩))))
            go_meet
            case rel => exact ⟨_, (true), (by first | rfl | (simp; done) | (simp [*]; done)), H', ⟨by have := HJ7.out; first | omega | exact Nat.le_refl _⟩, ⟨by (with_reducible repeat (first | apply Kd.R_alloc | apply Kd.R_drewN | apply Kd.R_drew)); exact Kd.R_mono HO111.out (fun _ hk => hk.2)⟩, ⟨by (with_reducible repeat (first | apply Kd.R_alloc | apply Kd.R_drewN | apply Kd.R_drew)); exact Kd.R_mono HO115.out (fun _ hk => hk.2)⟩, ⟨by repeat (first | (with_reducible first | exact HB.out | apply below_alloc | apply pw_below_drewN | apply below_drew1) | exact HB.out)⟩⟩
         · as_aux_lemma =>
          rw [if_neg c22] at H
          have c22b0 : ((t112.length : Int) == t103) = false := beq_eq_false_iff_ne.mpr c22
          have c22b1 : ((t112.length : Int) != t103) = true := bne_iff_ne.mpr c22
          as_aux_lemma =>
           have H' := Aside0.mk H
           clear H
           obtain ⟨Ao30, co30, eo30⟩ := Kd.R_slice HO111.out
           subst eo30
           obtain ⟨Ao31, co31, eo31⟩ := Kd.R_slice HO115.out
           subst eo31
           go_wp2
           repeat (go_quiet (fail); try go_wp2)
           go_meet
           case rel => exact ⟨_, (true), (by first | rfl | (simp; done) | (simp [*]; done)), H', ⟨by have := HJ7.out; first | omega | exact Nat.le_refl _⟩, ⟨by (with_reducible repeat (first | apply Kd.R_alloc | apply Kd.R_drewN | apply Kd.R_drew)); exact Kd.R_mono HO111.out (fun _ hk => hk.2)⟩, ⟨by (with_reducible repeat (first | apply Kd.R_alloc | apply Kd.R_drewN | apply Kd.R_drew)); exact Kd.R_mono HO115.out (fun _ hk => hk.2)⟩, ⟨by repeat (first | (with_reducible first | exact HB.out | apply below_alloc | apply pw_below_drewN | apply below_drew1) | exact HB.out)⟩⟩
        · as_aux_lemma =>
         rw [if_neg c21] at H
         have c21b0 : ((t108.length : Int) == t103) = false := beq_eq_false_iff_ne.mpr c21
         have c21b1 : ((t108.length : Int) != t103) = true := bne_iff_ne.mpr c21
         as_aux_lemma =>
          have H' := Aside0.mk H
          clear H
          obtain ⟨Ao32, co32, eo32⟩ := Kd.R_slice HO111.out
          subst eo32
          go_wp2
          repeat (go_quiet (fail); try go_wp2)
          go_meet
          case rel => exact ⟨_, (true), (by first | rfl | (simp; done) | (simp [*]; done)), H', ⟨by have := HJ7.out; first | omega | exact Nat.le_refl _⟩, ⟨by (with_reducible repeat (first | apply Kd.R_alloc | apply Kd.R_drewN | apply Kd.R_drew)); exact Kd.R_mono HO111.out (fun _ hk => hk.2)⟩, ⟨by (with_reducible repeat (first | apply Kd.R_alloc | apply Kd.R_drewN | apply Kd.R_drew)); exact Kd.R_mono HO115.out (fun _ hk => hk.2)⟩, ⟨by repeat (first | (with_reducible first | exact HB.out | apply below_alloc | apply pw_below_drewN | apply below_drew1) | exact HB.out)⟩⟩
       · as_aux_lemma =>
        rw [if_neg c20] at H
        have c20b0 : (t113 == 0) = false := beq_eq_false_iff_ne.mpr c20
        have c20b1 : (t113 != 0) = true := bne_iff_ne.mpr c20
        as_aux_lemma =>
         have H' := Aside0.mk H
         clear H
         go_wp2
         repeat (go_quiet (fail); try go_wp2)
         go_meet
         case rel => exact ⟨_, (true), (by first | rfl | (simp; done) | (simp [*]; done)), H', ⟨by have := HJ7.out; first | omega | exact Nat.le_refl _⟩, ⟨by (with_reducible repeat (first | apply Kd.R_alloc | apply Kd.R_drewN | apply Kd.R_drew)); exact Kd.R_mono HO111.out (fun _ hk => hk.2)⟩, ⟨by (with_reducible repeat (first | apply Kd.R_alloc | apply Kd.R_drewN | apply Kd.R_drew)); exact Kd.R_mono HO115.out (fun _ hk => hk.2)⟩, ⟨by repeat (first | (with_reducible first | exact HB.out | apply below_alloc | apply pw_below_drewN | apply below_drew1) | exact HB.out)⟩⟩
      · as_aux_lemma =>
       rw [if_neg c19] at H
       have c19b0 : (t109 == 0) = false := beq_eq_false_iff_ne.mpr c19
       have c19b1 : (t109 != 0) = true := bne_iff_ne.mpr c19
       (first | rw [c19b0] | (simp only [i64_w, i32_w]; rw [c19b0]) | skip)
       as_aux_lemma =>
        have H' := Aside0.mk H
        clear H
        go_wp2
        repeat (go_quiet (fail); try go_wp2)
        go_meet
        case rel => exact ⟨_, (true), (by first | rfl | (simp; done) | (simp [*]; done)), H', ⟨by have := HJ7.out; first | omega | exact Nat.le_refl _⟩, ⟨by (with_reducible repeat (first | apply Kd.R_alloc | apply Kd.R_drewN | apply Kd.R_drew)); exact Kd.R_mono HO111.out (fun _ hk => hk.2)⟩, ⟨by (with_reducible repeat (first | apply Kd.R_alloc | apply Kd.R_drewN | apply Kd.R_drew)); exact Kd.R_mono HO115.out (fun _ hk => hk.2)⟩, ⟨by repeat (first | (with_reducible first | exact HB.out | apply below_alloc | apply pw_below_drewN | apply below_drew1) | exact HB.out)⟩⟩
     case rest =>
      clear HC16
      try clear c1
      try clear c2
      try clear p2
      try clear p6
      try clear c10
      try clear c10b0
      try clear c10b1
      try clear c11
      try clear c12
      try clear c13
      try clear c13b0
      try clear c13b1
      try clear c19
      try clear c19b0
      try clear c19b1
      try clear c20
      try clear c20b0
      try clear c20b1
      try clear c21
      try clear c21b0
      try clear c21b1
      try clear c22
      try clear c22b0
      try clear c22b1
      try clear c24
      try clear p2
      obtain ⟨kq, x106_15, rfl, HA, HJ15, HO_19, HO_21, HB⟩ := hcut
      cases kq with
      | zero => exact absurd HA.out (by simp [peaveylaw10_CheckDrawn.j1])
      | succ kj15 =>
       have H := HA.out
       clear HA
       simp only [peaveylaw10_CheckDrawn.j1] at H
       by_cases c33 : x106_15 = true
       · as_aux_lemma =>
        subst c33
        have H1 : (some false) = some r := by rw [if_pos rfl] at H; exact H
        clear H
        have H := H1
        clear H1
        as_aux_lemma =>
         obtain rfl := Option.some.inj H
         go_wp2
         repeat (go_quiet (fail); try go_wp2)
         go_ret
         exact ⟨by first | rfl | (simp [errW_none, errW_some] <;> rfl) | (simp [*, errW_none, errW_some] <;> rfl), by repeat (first | (with_reducible first | exact HB.out | apply below_alloc | apply pw_below_drewN | apply below_drew1) | exact HB.out)⟩
       · as_aux_lemma =>
        replace c33 := Bool.eq_false_iff.mpr c33
        subst c33
        have H1 : ((check_Number.f t101 t108).bind fun bt118 => (if bt118.2 = 0 then (peaveylaw10_CheckDrawn.j2 kj15 a4 t101 t103 (wrap64 (Int.tmod a2 (IntKind.u64.wrap (t105)))) (wrap64 (Int.tmod a3 (IntKind.u64.wrap (t105)))) t108 t112 (bt118.1 != (wrap64 (Int.tmod a2 (IntKind.u64.wrap (t105)))))) else (peaveylaw10_CheckDrawn.j2 kj15 a4 t101 t103 (wrap64 (Int.tmod a2 (IntKind.u64.wrap (t105)))) (wrap64 (Int.tmod a3 (IntKind.u64.wrap (t105)))) t108 t112 true))) = some r := by rw [if_neg (show ¬ (false = true) by decide)] at H; exact H
        clear H
        have H := H1
        clear H1
        replace H := Option.bind_eq_some_iff.mp H
        obtain ⟨⟨t118, t119⟩, A340, H⟩ := H
        replace H : (if t119 = 0 then (peaveylaw10_CheckDrawn.j2 kj15 a4 t101 t103 (wrap64 (Int.tmod a2 (IntKind.u64.wrap (t105)))) (wrap64 (Int.tmod a3 (IntKind.u64.wrap (t105)))) t108 t112 (t118 != (wrap64 (Int.tmod a2 (IntKind.u64.wrap (t105)))))) else (peaveylaw10_CheckDrawn.j2 kj15 a4 t101 t103 (wrap64 (Int.tmod a2 (IntKind.u64.wrap (t105)))) (wrap64 (Int.tmod a3 (IntKind.u64.wrap (t105)))) t108 t112 true)) = some r := H
        have A34 := Aside0.mk A340
        clear A340
        have HC35 := Aside0.mk H
        clear H
        obtain ⟨Ao36, co36, eo36⟩ := Kd.R_slice HO_19.out
        subst eo36
        go_upto_region 11 with (first | (go_at_call 28; (with_reducible refine (check_Number.calls t101 _ _ t108 t118 t119 _ ?side1 ?side2 A34.out).mono ?_); (case side1 => repeat (first | exact (Kd.R_reads' HO_19.out).2.2 | (with_reducible refine Kd.C_alloc ?_ _) | (with_reducible refine Kd.C_drewN ?_ _) | (with_reducible refine Kd.C_drew ?_))); (case side2 => exact (Kd.R_reads' HO_19.out).2.1); rintro e w37 ⟨rfl, hb⟩; have n0_ := Aside0.mk (Kd.R_below (by (with_reducible repeat (first | apply Kd.R_alloc | apply Kd.R_drewN | apply Kd.R_drew)); exact HO_19.out) hb); have n1_ := Aside0.mk (Kd.R_below (by (with_reducible repeat (first | apply Kd.R_alloc | apply Kd.R_drewN | apply Kd.R_drew)); exact HO_21.out) hb); have n2_ := Aside0.mk (below_step (by repeat (first | (with_reducible first | exact HB.out | apply below_alloc | apply pw_below_drewN | apply below_drew1) | exact HB.out)) hb); clear HO_19; clear HO_21; clear HB; have HO_19 := n0_; have HO_21 := n1_; have HB := n2_; clear n0_ n1_ n2_; (try clear hb); (try clear hb2); (try clear hk); (try clear hi)))
        repeat (go_quiet (first | (go_at_call 28; (with_reducible refine (check_Number.calls t101 _ _ t108 t118 t119 _ ?side1 ?side2 A34.out).mono ?_); (case side1 => repeat (first | exact (Kd.R_reads' HO_19.out).2.2 | (with_reducible refine Kd.C_alloc ?_ _) | (with_reducible refine Kd.C_drewN ?_ _) | (with_reducible refine Kd.C_drew ?_))); (case side2 => exact (Kd.R_reads' HO_19.out).2.1); rintro e w37 ⟨rfl, hb⟩; have n0_ := Aside0.mk (Kd.R_below (by (with_reducible repeat (first | apply Kd.R_alloc | apply Kd.R_drewN | apply Kd.R_drew)); exact HO_19.out) hb); have n1_ := Aside0.mk (Kd.R_below (by (with_reducible repeat (first | apply Kd.R_alloc | apply Kd.R_drewN | apply Kd.R_drew)); exact HO_21.out) hb); have n2_ := Aside0.mk (below_step (by repeat (first | (with_reducible first | exact HB.out | apply below_alloc | apply pw_below_drewN | apply below_drew1) | exact HB.out)) hb); clear HO_19; clear HO_21; clear HB; have HO_19 := n0_; have HO_21 := n1_; have HB := n2_; clear n0_ n1_ n2_; (try clear hb); (try clear hb2); (try clear hk); (try clear hi))); go_upto_region 11 with (first | (go_at_call 28; (with_reducible refine (check_Number.calls t101 _ _ t108 t118 t119 _ ?side1 ?side2 A34.out).mono ?_); (case side1 => repeat (first | exact (Kd.R_reads' HO_19.out).2.2 | (with_reducible refine Kd.C_alloc ?_ _) | (with_reducible refine Kd.C_drewN ?_ _) | (with_reducible refine Kd.C_drew ?_))); (case side2 => exact (Kd.R_reads' HO_19.out).2.1); rintro e w37 ⟨rfl, hb⟩; have n0_ := Aside0.mk (Kd.R_below (by (with_reducible repeat (first | apply Kd.R_alloc | apply Kd.R_drewN | apply Kd.R_drew)); exact HO_19.out) hb); have n1_ := Aside0.mk (Kd.R_below (by (with_reducible repeat (first | apply Kd.R_alloc | apply Kd.R_drewN | apply Kd.R_drew)); exact HO_21.out) hb); have n2_ := Aside0.mk (below_step (by repeat (first | (with_reducible first | exact HB.out | apply below_alloc | apply pw_below_drewN | apply below_drew1) | exact HB.out)) hb); clear HO_19; clear HO_21; clear HB; have HO_19 := n0_; have HO_21 := n1_; have HB := n2_; clear n0_ n1_ n2_; (try clear hb); (try clear hb2); (try clear hk); (try clear hi))))
        (try simp only [Act.put, List.setIfInBounds_toArray, List.set_cons_zero, List.set_cons_succ])
        go_cut [119] (fun v119 wc => ∃ (kq : Nat) (x119_34 : Bool), v119 = .bool x119_34 ∧ Aside0 (peaveylaw10_CheckDrawn.j2 kq a4 t101 t103 (wrap64 (Int.tmod a2 (IntKind.u64.wrap (t105)))) (wrap64 (Int.tmod a3 (IntKind.u64.wrap (t105)))) t108 t112 x119_34 = some r) ∧ Aside0 (kq ≤ kj15) ∧ Aside0 (Kd.R (Kd.int .i64) 3 wc w.heap.size (fun k_ => some k_ ≠ (v114 : Value).ownBlock) (.slice Ao36 t108.length co36) t108) ∧ Aside0 (Kd.R (Kd.int .i64) 3 wc w.heap.size (fun k_ => some k_ ≠ ((.slice Ao36 t108.length co36) : Value).ownBlock) v114 t112) ∧ Aside0 (Below w.heap.size w wc))
        case first =>
         have H := HC35.out
         clear HC35
         by_cases c38 : t119 = 0
         · as_aux_lemma =>
          rw [if_pos c38] at H
          have c38b0 : (t119 == 0) = true := beq_iff_eq.mpr c38
          have c38b1 : (t119 != 0) = false := bne_eq_false_iff_eq.mpr c38
          clear c38
          (first | rw [c38b0] | (simp only [i64_w, i32_w]; rw [c38b0]) | skip)
          as_aux_lemma =>
           have H' := Aside0.mk H
           clear H
           go_wp2
           repeat (go_quiet (fail); try go_wp2)
           go_meet
           case rel => exact ⟨_, ((t118 != (wrap64 (Int.tmod a2 (IntKind.u64.wrap (t105)))))), (by first | rfl | (simp; done) | (simp [*]; done)), H', ⟨by have := HJ7.out; have := HJ15.out; first | omega | exact Nat.le_refl _⟩, ⟨by (with_reducible repeat (first | apply Kd.R_alloc | apply Kd.R_drewN | apply Kd.R_drew)); exact HO_19.out⟩, ⟨by (with_reducible repeat (first | apply Kd.R_alloc | apply Kd.R_drewN | apply Kd.R_drew)); exact HO_21.out⟩, ⟨by repeat (first | (with_reducible first | exact HB.out | apply below_alloc | apply pw_below_drewN | apply below_drew1) | exact HB.out)⟩⟩
         · as_aux_lemma =>
          rw [if_neg c38] at H
          have c38b0 : (t119 == 0) = false := beq_eq_false_iff_ne.mpr c38
          have c38b1 : (t119 != 0) = true := bne_iff_ne.mpr c38
          (first | rw [c38b0] | (simp only [i64_w, i32_w]; rw [c38b0]) | skip)
          as_aux_lemma =>
           have H' := Aside0.mk H
           clear H
           go_wp2
           repeat (go_quiet (fail); try go_wp2)
           go_meet
           case rel => exact ⟨_, (true), (by first | rfl | (simp; done) | (simp [*]; done)), H', ⟨by have := HJ7.out; have := HJ15.out; first | omega | exact Nat.le_refl _⟩, ⟨by (with_reducible repeat (first | apply Kd.R_alloc | apply Kd.R_drewN | apply Kd.R_drew)); exact HO_19.out⟩, ⟨by (with_reducible repeat (first | apply Kd.R_alloc | apply Kd.R_drewN | apply Kd.R_drew)); exact HO_21.out⟩, ⟨by repeat (first | (with_reducible first | exact HB.out | apply below_alloc | apply pw_below_drewN | apply below_drew1) | exact HB.out)⟩⟩
        case rest =>
         clear HC35
         try clear c1
         try clear c2
         try clear p2
         try clear c3
         try clear p6
         try clear c10
         try clear c10b0
         try clear c10b1
         try clear c11
         try clear c12
         try clear c13
         try clear c13b0
         try clear c13b1
         try clear c19
         try clear c19b0
         try clear c19b1
         try clear c20
         try clear c20b0
         try clear c20b1
         try clear c21
         try clear c21b0
         try clear c21b1
         try clear c22
         try clear c22b0
         try clear c22b1
         try clear c24
         try clear c33
         try clear c38
         try clear c38b0
         try clear c38b1
         try clear p2
         try clear p6
         obtain ⟨kq, x119_34, rfl, HA, HJ34, HO_19, HO_21, HB⟩ := hcut
         cases kq with
         | zero => exact absurd HA.out (by simp [peaveylaw10_CheckDrawn.j2])
         | succ kj34 =>
          have H := HA.out
          clear HA
          simp only [peaveylaw10_CheckDrawn.j2] at H
          by_cases c39 : x119_34 = true
          · as_aux_lemma =>
           subst c39
           have H1 : (some false) = some r := by rw [if_pos rfl] at H; exact H
           clear H
           have H := H1
           clear H1
           as_aux_lemma =>
            obtain rfl := Option.some.inj H
            go_wp2
            repeat (go_quiet (fail); try go_wp2)
            go_ret
            exact ⟨by first | rfl | (simp [errW_none, errW_some] <;> rfl) | (simp [*, errW_none, errW_some] <;> rfl), by repeat (first | (with_reducible first | exact HB.out | apply below_alloc | apply pw_below_drewN | apply below_drew1) | exact HB.out)⟩
          · as_aux_lemma =>
           replace c39 := Bool.eq_false_iff.mpr c39
           subst c39
           have H1 : (peaveylaw10_CheckDrawn.l0 kj34 a4 t101 t103 (wrap64 (Int.tmod a2 (IntKind.u64.wrap (t105)))) (wrap64 (Int.tmod a3 (IntKind.u64.wrap (t105)))) t108 t112 0) = some r := by rw [if_neg (show ¬ (false = true) by decide)] at H; exact H
           clear H
           have H := H1
           clear H1
           have HC40 := Aside0.mk H
           clear H
           go_upto_block 0 with (fail)
           repeat (go_quiet (fail); go_upto_block 0 with (fail))
           go_cut [] (fun wc => ∃ (kq : Nat), Aside0 (peaveylaw10_CheckDrawn.j4 kq a4 t101 t103 = some r) ∧ Aside0 (kq ≤ kj34) ∧ Aside0 (Below w.heap.size w wc))
           case first =>
            have H := HC40.out
            clear HC40
            have H' := Aside0.mk H
            clear H
            go_wp2
            repeat (go_quiet (fail); try go_wp2)
            go_loopg [24] kj34 (fun kq v24 w' => ∃ (x24_4 : Int), v24 = .int .i64 x24_4 ∧ Aside0 (peaveylaw10_CheckDrawn.l0 kq a4 t101 t103 (wrap64 (Int.tmod a2 (IntKind.u64.wrap (t105)))) (wrap64 (Int.tmod a3 (IntKind.u64.wrap (t105)))) t108 t112 x24_4 = some r) ∧ Aside0 (kq ≤ kj34) ∧ Aside0 (Kd.R (Kd.int .i64) 3 w' w.heap.size (fun k_ => some k_ ≠ (v114 : Value).ownBlock) (.slice Ao36 t108.length co36) t108) ∧ Aside0 (Kd.R (Kd.int .i64) 3 w' w.heap.size (fun k_ => some k_ ≠ ((.slice Ao36 t108.length co36) : Value).ownBlock) v114 t112) ∧ Aside0 (Below w.heap.size w w'))
            case atStart => exact ⟨(0), (by first | rfl | (simp; done) | (simp [*]; done)), H', ⟨Nat.le_refl _⟩, ⟨by (with_reducible repeat (first | apply Kd.R_alloc | apply Kd.R_drewN | apply Kd.R_drew)); exact HO_19.out⟩, ⟨by (with_reducible repeat (first | apply Kd.R_alloc | apply Kd.R_drewN | apply Kd.R_drew)); exact HO_21.out⟩, ⟨by repeat (first | (with_reducible first | exact HB.out | apply below_alloc | apply pw_below_drewN | apply below_drew1) | exact HB.out)⟩⟩
            case round =>
             clear H'
             try clear c1
             try clear c2
             try clear p2
             try clear c3
             try clear p6
             try clear c10
             try clear c10b0
             try clear c10b1
             try clear c11
             try clear c12
             try clear c13
             try clear c13b0
             try clear c13b1
             try clear c19
             try clear c19b0
             try clear c19b1
             try clear c20
             try clear c20b0
             try clear c20b1
             try clear c21
             try clear c21b0
             try clear c21b1
             try clear c22
             try clear c22b0
             try clear c22b1
             try clear c24
             try clear c33
             try clear c38
             try clear c38b0
             try clear c38b1
             try clear c39
             try clear p2
             try clear p6
             obtain ⟨x24_4, rfl, HA, HK4, HO_19, HO_21, HB⟩ := hrel
             cases gk with
             | zero => exact absurd HA.out (by simp [peaveylaw10_CheckDrawn.l0])
             | succ k4 =>
              have H := HA.out
              clear HA
              simp only [peaveylaw10_CheckDrawn.l0] at H
              by_cases c41 : x24_4 < t103
              · as_aux_lemma =>
               rw [if_pos c41] at H
               have c41b0 : decide (x24_4 < t103) = true := decide_eq_true c41
               clear c41
               (first | rw [c41b0] | (simp only [i64_w, i32_w]; rw [c41b0]) | skip)
               by_cases c42 : 0 ≤ x24_4
               · as_aux_lemma =>
                rw [if_pos c42] at H
                have c42b0 : decide (0 ≤ x24_4) = true := decide_eq_true c42
                clear c42
                by_cases c43 : x24_4 < (t108.length : Int)
                · as_aux_lemma =>
                 rw [if_pos c43] at H
                 have c43b0 : decide (x24_4 < (t108.length : Int)) = true := decide_eq_true c43
                 clear c43
                 by_cases c44 : x24_4 < (t112.length : Int)
                 · as_aux_lemma =>
                  rw [if_pos c44] at H
                  have c44b0 : decide (x24_4 < (t112.length : Int)) = true := decide_eq_true c44
                  clear c44
                  by_cases c45 : (rd t108 x24_4) = (rd t112 x24_4)
                  · as_aux_lemma =>
                   rw [if_pos c45] at H
                   have c45b0 : ((rd t108 x24_4) == (rd t112 x24_4)) = true := beq_iff_eq.mpr c45
                   have c45b1 : ((rd t108 x24_4) != (rd t112 x24_4)) = false := bne_eq_false_iff_eq.mpr c45
                   clear c45
                   as_aux_lemma =>
                    have H' := Aside0.mk H
                    clear H
                    have p120 : 0 ≤ (x24_4 : Int) := of_decide_eq_true (by first | (with_reducible assumption) | assumption)
                    have q120 : x24_4 < (t108.length : Int) := of_decide_eq_true (by first | (with_reducible assumption) | assumption)
                    obtain ⟨ad120, e120, hx120_0⟩ := Kd.at_int (Kd.R_reads' HO_19.out).2.2 x24_4 p120 q120
                    cases e120
                    replace p120 := eq_true p120
                    replace q120 := eq_true q120
                    obtain ⟨Ao46, co46, eo46⟩ := Kd.R_slice HO_21.out
                    subst eo46
                    have p121 : 0 ≤ (x24_4 : Int) := of_decide_eq_true (by first | (with_reducible assumption) | assumption)
                    have q121 : x24_4 < (t112.length : Int) := of_decide_eq_true (by first | (with_reducible assumption) | assumption)
                    obtain ⟨ad121, e121, hx121_0⟩ := Kd.at_int (Kd.R_reads' HO_21.out).2.2 x24_4 p121 q121
                    cases e121
                    replace p121 := eq_true p121
                    replace q121 := eq_true q121
                    go_wp2
                    repeat (go_quiet (fail); try go_wp2)
                    go_roundg k4
                    case measure => have := HJ7.out; have := HJ15.out; have := HJ34.out; have := HK4.out; omega
                    case rel => exact ⟨(wrap64 (x24_4 + 1)), (by first | rfl | (simp; done) | (simp [*]; done)), H', ⟨by have := HJ7.out; have := HJ15.out; have := HJ34.out; have := HK4.out; omega⟩, ⟨by (with_reducible repeat (first | apply Kd.R_alloc | apply Kd.R_drewN | apply Kd.R_drew)); exact HO_19.out⟩, ⟨by (with_reducible repeat (first | apply Kd.R_alloc | apply Kd.R_drewN | apply Kd.R_drew)); exact HO_21.out⟩, ⟨by repeat (first | (with_reducible first | exact HB.out | apply below_alloc | apply pw_below_drewN | apply below_drew1) | exact HB.out)⟩⟩
                  · as_aux_lemma =>
                   rw [if_neg c45] at H
                   have c45b0 : ((rd t108 x24_4) == (rd t112 x24_4)) = false := beq_eq_false_iff_ne.mpr c45
                   have c45b1 : ((rd t108 x24_4) != (rd t112 x24_4)) = true := bne_iff_ne.mpr c45
                   by_cases c47 : ((decide ((rd t108 x24_4) < (rd t112 x24_4))) != (decide ((wrap64 (Int.tmod a2 (IntKind.u64.wrap (t105)))) < (wrap64 (Int.tmod a3 (IntKind.u64.wrap (t105))))))) = true
                   · as_aux_lemma =>
                    rw [if_pos c47] at H
                    have c47b0 : ((decide ((rd t108 x24_4) < (rd t112 x24_4))) != (decide ((wrap64 (Int.tmod a2 (IntKind.u64.wrap (t105)))) < (wrap64 (Int.tmod a3 (IntKind.u64.wrap (t105))))))) = true := c47
                    (try (have c47b1 : decide ((decide ((rd t108 x24_4) < (rd t112 x24_4))) = (decide ((wrap64 (Int.tmod a2 (IntKind.u64.wrap (t105)))) < (wrap64 (Int.tmod a3 (IntKind.u64.wrap (t105))))))) = false := by simpa using c47))
                    (try (have c47b2 : ((decide ((rd t108 x24_4) < (rd t112 x24_4))) == (decide ((wrap64 (Int.tmod a2 (IntKind.u64.wrap (t105)))) < (wrap64 (Int.tmod a3 (IntKind.u64.wrap (t105))))))) = false := by simpa using c47))
                    (try (have c47b3 : ¬ ((decide ((rd t108 x24_4) < (rd t112 x24_4))) = (decide ((wrap64 (Int.tmod a2 (IntKind.u64.wrap (t105)))) < (wrap64 (Int.tmod a3 (IntKind.u64.wrap (t105))))))) := by simpa using c47))
                    clear c47
                    as_aux_lemma =>
                     obtain rfl := Option.some.inj H
                     have p120 : 0 ≤ (x24_4 : Int) := of_decide_eq_true (by first | (with_reducible assumption) | assumption)
                     have q120 : x24_4 < (t108.length : Int) := of_decide_eq_true (by first | (with_reducible assumption) | assumption)
                     obtain ⟨ad120, e120, hx120_0⟩ := Kd.at_int (Kd.R_reads' HO_19.out).2.2 x24_4 p120 q120
                     cases e120
                     replace p120 := eq_true p120
                     replace q120 := eq_true q120
                     obtain ⟨Ao48, co48, eo48⟩ := Kd.R_slice HO_21.out
                     subst eo48
                     have p121 : 0 ≤ (x24_4 : Int) := of_decide_eq_true (by first | (with_reducible assumption) | assumption)
                     have q121 : x24_4 < (t112.length : Int) := of_decide_eq_true (by first | (with_reducible assumption) | assumption)
                     obtain ⟨ad121, e121, hx121_0⟩ := Kd.at_int (Kd.R_reads' HO_21.out).2.2 x24_4 p121 q121
                     cases e121
                     replace p121 := eq_true p121
                     replace q121 := eq_true q121
                     have p122 : 0 ≤ (x24_4 : Int) := of_decide_eq_true (by first | (with_reducible assumption) | assumption)
                     have q122 : x24_4 < (t108.length : Int) := of_decide_eq_true (by first | (with_reducible assumption) | assumption)
                     obtain ⟨ad122, e122, hx122_0⟩ := Kd.at_int (Kd.R_reads' HO_19.out).2.2 x24_4 p122 q122
                     obtain rfl : ad120 = ad122 := (by injection e122)
                     replace p122 := eq_true p122
                     replace q122 := eq_true q122
                     have p123 : 0 ≤ (x24_4 : Int) := of_decide_eq_true (by first | (with_reducible assumption) | assumption)
                     have q123 : x24_4 < (t112.length : Int) := of_decide_eq_true (by first | (with_reducible assumption) | assumption)
                     obtain ⟨ad123, e123, hx123_0⟩ := Kd.at_int (Kd.R_reads' HO_21.out).2.2 x24_4 p123 q123
                     obtain rfl : ad121 = ad123 := (by injection e123)
                     replace p123 := eq_true p123
                     replace q123 := eq_true q123
                     go_wp2
                     repeat (go_quiet (fail); try go_wp2)
                     go_ret
                     exact ⟨by first | rfl | (simp [errW_none, errW_some] <;> rfl) | (simp [*, errW_none, errW_some] <;> rfl), by repeat (first | (with_reducible first | exact HB.out | apply below_alloc | apply pw_below_drewN | apply below_drew1) | exact HB.out)⟩
                   · as_aux_lemma =>
                    rw [if_neg c47] at H
                    have c47b0 : ((decide ((rd t108 x24_4) < (rd t112 x24_4))) != (decide ((wrap64 (Int.tmod a2 (IntKind.u64.wrap (t105)))) < (wrap64 (Int.tmod a3 (IntKind.u64.wrap (t105))))))) = false := by simpa using c47
                    (try (have c47b1 : decide ((decide ((rd t108 x24_4) < (rd t112 x24_4))) = (decide ((wrap64 (Int.tmod a2 (IntKind.u64.wrap (t105)))) < (wrap64 (Int.tmod a3 (IntKind.u64.wrap (t105))))))) = true := by simpa using c47))
                    (try (have c47b2 : ((decide ((rd t108 x24_4) < (rd t112 x24_4))) == (decide ((wrap64 (Int.tmod a2 (IntKind.u64.wrap (t105)))) < (wrap64 (Int.tmod a3 (IntKind.u64.wrap (t105))))))) = true := by simpa using c47))
                    clear c47
                    as_aux_lemma =>
                     have H' := Aside0.mk H
                     clear H
                     have p120 : 0 ≤ (x24_4 : Int) := of_decide_eq_true (by first | (with_reducible assumption) | assumption)
                     have q120 : x24_4 < (t108.length : Int) := of_decide_eq_true (by first | (with_reducible assumption) | assumption)
                     obtain ⟨ad120, e120, hx120_0⟩ := Kd.at_int (Kd.R_reads' HO_19.out).2.2 x24_4 p120 q120
                     cases e120
                     replace p120 := eq_true p120
                     replace q120 := eq_true q120
                     obtain ⟨Ao49, co49, eo49⟩ := Kd.R_slice HO_21.out
                     subst eo49
                     have p121 : 0 ≤ (x24_4 : Int) := of_decide_eq_true (by first | (with_reducible assumption) | assumption)
                     have q121 : x24_4 < (t112.length : Int) := of_decide_eq_true (by first | (with_reducible assumption) | assumption)
                     obtain ⟨ad121, e121, hx121_0⟩ := Kd.at_int (Kd.R_reads' HO_21.out).2.2 x24_4 p121 q121
                     cases e121
                     replace p121 := eq_true p121
                     replace q121 := eq_true q121
                     have p122 : 0 ≤ (x24_4 : Int) := of_decide_eq_true (by first | (with_reducible assumption) | assumption)
                     have q122 : x24_4 < (t108.length : Int) := of_decide_eq_true (by first | (with_reducible assumption) | assumption)
                     obtain ⟨ad122, e122, hx122_0⟩ := Kd.at_int (Kd.R_reads' HO_19.out).2.2 x24_4 p122 q122
                     obtain rfl : ad120 = ad122 := (by injection e122)
                     replace p122 := eq_true p122
                     replace q122 := eq_true q122
                     have p123 : 0 ≤ (x24_4 : Int) := of_decide_eq_true (by first | (with_reducible assumption) | assumption)
                     have q123 : x24_4 < (t112.length : Int) := of_decide_eq_true (by first | (with_reducible assumption) | assumption)
                     obtain ⟨ad123, e123, hx123_0⟩ := Kd.at_int (Kd.R_reads' HO_21.out).2.2 x24_4 p123 q123
                     obtain rfl : ad121 = ad123 := (by injection e123)
                     replace p123 := eq_true p123
                     replace q123 := eq_true q123
                     go_wp2
                     repeat (go_quiet (fail); try go_wp2)
                     go_meet
                     case rel => exact ⟨_, H', ⟨by have := HJ7.out; have := HJ15.out; have := HJ34.out; have := HK4.out; first | omega | exact Nat.le_refl _⟩, ⟨by repeat (first | (with_reducible first | exact HB.out | apply below_alloc | apply pw_below_drewN | apply below_drew1) | exact HB.out)⟩⟩
                 · as_aux_lemma =>
                  rw [if_neg c44] at H
                  exact absurd H (by simp)
                · as_aux_lemma =>
                 rw [if_neg c43] at H
                 exact absurd H (by simp)
               · as_aux_lemma =>
                rw [if_neg c42] at H
                exact absurd H (by simp)
              · as_aux_lemma =>
               rw [if_neg c41] at H
               have c41b0 : decide (x24_4 < t103) = false := decide_eq_false c41
               clear c41
               (first | rw [c41b0] | (simp only [i64_w, i32_w]; rw [c41b0]) | skip)
               as_aux_lemma =>
                have H' := Aside0.mk H
                clear H
                go_wp2
                repeat (go_quiet (fail); try go_wp2)
                go_meet
                case rel => exact ⟨_, H', ⟨by have := HJ7.out; have := HJ15.out; have := HJ34.out; have := HK4.out; first | omega | exact Nat.le_refl _⟩, ⟨by repeat (first | (with_reducible first | exact HB.out | apply below_alloc | apply pw_below_drewN | apply below_drew1) | exact HB.out)⟩⟩
           case rest =>
            clear HC40
            try clear c1
            try clear p1
            try clear q1
            try clear hx1
            try clear c2
            try clear p2
            try clear c3
            try clear c4
            try clear p6
            try clear c10
            try clear c10b0
            try clear c10b1
            try clear c11
            try clear c12
            try clear p12
            try clear q12
            try clear hx12
            try clear c13
            try clear c13b0
            try clear c13b1
            try clear c19
            try clear c19b0
            try clear c19b1
            try clear c20
            try clear c20b0
            try clear c20b1
            try clear c21
            try clear c21b0
            try clear c21b1
            try clear c22
            try clear c22b0
            try clear c22b1
            try clear c24
            try clear c33
            try clear c38
            try clear c38b0
            try clear c38b1
            try clear c39
            try clear c41
            try clear c41b0
            try clear c42
            try clear c42b0
            try clear c43
            try clear c43b0
            try clear c44
            try clear c44b0
            try clear c45
            try clear c45b0
            try clear c45b1
            try clear c47
            try clear c47b0
            try clear c47b1
            try clear c47b2
            try clear hx120_0
            try clear hx121_0
            try clear hx122_0
            try clear hx123_0
            try clear p120
            try clear p121
            try clear p122
            try clear p123
            try clear p2
            try clear p6
            try clear q120
            try clear q121
            try clear q122
            try clear q123
            obtain ⟨kq, HA, HJ39, HB⟩ := hcut
            cases kq with
            | zero => exact absurd HA.out (by simp [peaveylaw10_CheckDrawn.j4])
            | succ kj39 =>
             have H := HA.out
             clear HA
             simp only [peaveylaw10_CheckDrawn.j4] at H
             have H' := Aside0.mk H
             clear H
             go_wp2
             repeat (go_quiet (fail); try go_wp2)
             go_loopg [25, 26] kj39 (fun kq v25 v26 w' => ∃ (x25_5 : List Int) (x26_5 : Int), v26 = .int .i64 x26_5 ∧ Aside0 (peaveylaw10_CheckDrawn.l1 kq a4 t101 t103 x25_5 x26_5 = some r) ∧ Aside0 (kq ≤ kj39) ∧ Aside0 (Kd.R (Kd.int .i64) 3 w' w.heap.size (fun _ => True) v25 x25_5) ∧ Aside0 (Below w.heap.size w w'))
             case atStart => exact ⟨(([] : List Int)), (0), (by first | rfl | (simp; done) | (simp [*]; done)), H', ⟨Nat.le_refl _⟩, ⟨by first | exact Kd.R_nil _ _ _ _ _ | exact Kd.N_nil _ _ _ _ _ | exact Kd.V_nil _ _ _ _ _ | exact Kd.Q_nil _ _ _ _ _ | exact Kd.S_nil _ _ _ _ _⟩, ⟨by repeat (first | (with_reducible first | exact HB.out | apply below_alloc | apply pw_below_drewN | apply below_drew1) | exact HB.out)⟩⟩
             case round =>
              clear H'
              try clear c1
              try clear p1
              try clear q1
              try clear hx1
              try clear c2
              try clear p2
              try clear c3
              try clear c4
              try clear p6
              try clear c10
              try clear c10b0
              try clear c10b1
              try clear c11
              try clear c12
              try clear p12
              try clear q12
              try clear hx12
              try clear c13
              try clear c13b0
              try clear c13b1
              try clear c19
              try clear c19b0
              try clear c19b1
              try clear c20
              try clear c20b0
              try clear c20b1
              try clear c21
              try clear c21b0
              try clear c21b1
              try clear c22
              try clear c22b0
              try clear c22b1
              try clear c24
              try clear c33
              try clear c38
              try clear c38b0
              try clear c38b1
              try clear c39
              try clear c41
              try clear c41b0
              try clear c42
              try clear c42b0
              try clear c43
              try clear c43b0
              try clear c44
              try clear c44b0
              try clear c45
              try clear c45b0
              try clear c45b1
              try clear c47
              try clear c47b0
              try clear c47b1
              try clear c47b2
              try clear hx120_0
              try clear hx121_0
              try clear hx122_0
              try clear hx123_0
              try clear p1
              try clear p12
              try clear p120
              try clear p121
              try clear p122
              try clear p123
              try clear p2
              try clear p6
              try clear q1
              try clear q12
              try clear q120
              try clear q121
              try clear q122
              try clear q123
              obtain ⟨x25_5, x26_5, rfl, HA, HK5, HO_25, HB⟩ := hrel
              cases gk with
              | zero => exact absurd HA.out (by simp [peaveylaw10_CheckDrawn.l1])
              | succ k5 =>
               have H := HA.out
               clear HA
               simp only [peaveylaw10_CheckDrawn.l1] at H
               by_cases c50 : x26_5 < t101
               · as_aux_lemma =>
                rw [if_pos c50] at H
                have c50b0 : decide (x26_5 < t101) = true := decide_eq_true c50
                clear c50
                by_cases c51 : 0 ≤ x26_5
                · as_aux_lemma =>
                 rw [if_pos c51] at H
                 have c51b0 := eq_true c51
                 have c51b1 : decide (0 ≤ x26_5) = true := decide_eq_true c51
                 clear c51
                 obtain ⟨ji52, hji52⟩ : ∃ j_ : Int, (shr .u64 a4 x26_5) = j_ := ⟨_, rfl⟩
                 replace H : (if (Go.bits .and .u64 (ji52) 1) = 1 then (if x25_5.length < 17592186044416 then (peaveylaw10_CheckDrawn.l1 k5 a4 t101 t103 (x25_5 ++ [x26_5]) (wrap64 (x26_5 + 1))) else (none)) else (peaveylaw10_CheckDrawn.l1 k5 a4 t101 t103 x25_5 (wrap64 (x26_5 + 1)))) = some r := by first | (rw [hji52] at H; exact H) | (simp only [hji52] at H ⊢; exact H)
                 have hji52_ : (a4 / 2 ^ min x26_5.toNat 64) = ji52 := hji52
                 have hji52z : x26_5 ≤ 64 → (a4 / 2 ^ x26_5.toNat) = ji52 := shr_small hji52
                 by_cases c53 : (Go.bits .and .u64 (ji52) 1) = 1
                 · as_aux_lemma =>
                  rw [if_pos c53] at H
                  have c53b0 : ((Go.bits .and .u64 (ji52) 1) == 1) = true := beq_iff_eq.mpr c53
                  have c53b1 : ((Go.bits .and .u64 (ji52) 1) != 1) = false := bne_eq_false_iff_eq.mpr c53
                  clear c53
                  by_cases c54 : x25_5.length < 17592186044416
                  · as_aux_lemma =>
                   rw [if_pos c54] at H
                   have LMc54 := Aside0.mk c54
                   clear c54
                   obtain ⟨y124, hy124⟩ : ∃ y_ : List Int, y_ = (x25_5 ++ [x26_5]) := ⟨_, rfl⟩
                   replace H : (peaveylaw10_CheckDrawn.l1 k5 a4 t101 t103 y124 (wrap64 (x26_5 + 1))) = some r := by first | (rw [hy124]; with_reducible exact H) | (have H2_ := (Option.bind_some _ _).symm.trans H; rw [hy124]; with_reducible exact H2_) | (have H2_ := (Option.bind_some _ _).symm.trans H; with_reducible exact H2_) | with_reducible exact H | (rw [hy124]; exact H) | exact H
                   have Ny124 := Aside0.mk hy124
                   clear hy124
                   as_aux_lemma =>
                    have H' := Aside0.mk H
                    clear H
                    go_wp2_with (first | ((with_reducible refine gate_builtin (b := .append) (xs := #[.tmp 157, .tmp 159]) rfl ?_); (try (refine gate_guard (by rfl) ?_; dsimp only)); at_builtin; refine Kd.R_append (Kd.int .i64) (w0 := w) w.heap.size rfl (.tmp 157) (.tmp 159) 32 3 (.int .i64 0) 8 rfl Try.underlying32 info3 rfl (by decide) (by omega) u25 x25_5 x26_5 [.int .i64 x26_5] (fun _ => True) (fun _ => False) rfl rfl ?aP (fun _ hk => hk.elim) ?aF ?aO ?aB ?aS ?aL ?_; (case aP => exact rfl); (case aB => exact (by repeat (first | (with_reducible first | exact HB.out | apply below_alloc | apply pw_below_drewN | apply below_drew1) | exact HB.out))); (case aF => exact (fun _ _ => trivial)); (case aO => exact (by (with_reducible repeat (first | apply Kd.R_alloc | apply Kd.R_drewN | apply Kd.R_drew)); exact HO_25.out)); (case aS => exact (below_size (by repeat (first | (with_reducible first | exact HB.out | apply below_alloc | apply pw_below_drewN | apply below_drew1) | exact HB.out)))); (case aL => have := LMc54.out; omega); intro v125 w55 ho hb hg hat; rw [← Ny124.out] at ho; have n0_ := Aside0.mk (hb); have n1_ := Aside0.mk (ho); clear HB; clear HO_25; have HB := n0_; have HO126 := n1_; clear n0_ n1_; clear ho hb hg hat))
                    repeat (go_quiet (first | ((with_reducible refine gate_builtin (b := .append) (xs := #[.tmp 157, .tmp 159]) rfl ?_); (try (refine gate_guard (by rfl) ?_; dsimp only)); at_builtin; refine Kd.R_append (Kd.int .i64) (w0 := w) w.heap.size rfl (.tmp 157) (.tmp 159) 32 3 (.int .i64 0) 8 rfl Try.underlying32 info3 rfl (by decide) (by omega) u25 x25_5 x26_5 [.int .i64 x26_5] (fun _ => True) (fun _ => False) rfl rfl ?aP (fun _ hk => hk.elim) ?aF ?aO ?aB ?aS ?aL ?_; (case aP => exact rfl); (case aB => exact (by repeat (first | (with_reducible first | exact HB.out | apply below_alloc | apply pw_below_drewN | apply below_drew1) | exact HB.out))); (case aF => exact (fun _ _ => trivial)); (case aO => exact (by (with_reducible repeat (first | apply Kd.R_alloc | apply Kd.R_drewN | apply Kd.R_drew)); exact HO_25.out)); (case aS => exact (below_size (by repeat (first | (with_reducible first | exact HB.out | apply below_alloc | apply pw_below_drewN | apply below_drew1) | exact HB.out)))); (case aL => have := LMc54.out; omega); intro v125 w55 ho hb hg hat; rw [← Ny124.out] at ho; have n0_ := Aside0.mk (hb); have n1_ := Aside0.mk (ho); clear HB; clear HO_25; have HB := n0_; have HO126 := n1_; clear n0_ n1_; clear ho hb hg hat)); try go_wp2_with (first | ((with_reducible refine gate_builtin (b := .append) (xs := #[.tmp 157, .tmp 159]) rfl ?_); (try (refine gate_guard (by rfl) ?_; dsimp only)); at_builtin; refine Kd.R_append (Kd.int .i64) (w0 := w) w.heap.size rfl (.tmp 157) (.tmp 159) 32 3 (.int .i64 0) 8 rfl Try.underlying32 info3 rfl (by decide) (by omega) u25 x25_5 x26_5 [.int .i64 x26_5] (fun _ => True) (fun _ => False) rfl rfl ?aP (fun _ hk => hk.elim) ?aF ?aO ?aB ?aS ?aL ?_; (case aP => exact rfl); (case aB => exact (by repeat (first | (with_reducible first | exact HB.out | apply below_alloc | apply pw_below_drewN | apply below_drew1) | exact HB.out))); (case aF => exact (fun _ _ => trivial)); (case aO => exact (by (with_reducible repeat (first | apply Kd.R_alloc | apply Kd.R_drewN | apply Kd.R_drew)); exact HO_25.out)); (case aS => exact (below_size (by repeat (first | (with_reducible first | exact HB.out | apply below_alloc | apply pw_below_drewN | apply below_drew1) | exact HB.out)))); (case aL => have := LMc54.out; omega); intro v125 w55 ho hb hg hat; rw [← Ny124.out] at ho; have n0_ := Aside0.mk (hb); have n1_ := Aside0.mk (ho); clear HB; clear HO_25; have HB := n0_; have HO126 := n1_; clear n0_ n1_; clear ho hb hg hat)))
                    go_roundg k5
                    case measure => have := HJ7.out; have := HJ15.out; have := HJ34.out; have := HJ39.out; have := HK5.out; omega
                    case rel => exact ⟨(y124), (wrap64 (x26_5 + 1)), (by first | rfl | (simp; done) | (simp [*]; done)), H', ⟨by have := HJ7.out; have := HJ15.out; have := HJ34.out; have := HJ39.out; have := HK5.out; omega⟩, ⟨by (with_reducible repeat (first | apply Kd.R_alloc | apply Kd.R_drewN | apply Kd.R_drew)); exact HO126.out⟩, ⟨by repeat (first | (with_reducible first | exact HB.out | apply below_alloc | apply pw_below_drewN | apply below_drew1) | exact HB.out)⟩⟩
                  · as_aux_lemma =>
                   rw [if_neg c54] at H
                   exact absurd H (by simp)
                 · as_aux_lemma =>
                  rw [if_neg c53] at H
                  have c53b0 : ((Go.bits .and .u64 (ji52) 1) == 1) = false := beq_eq_false_iff_ne.mpr c53
                  have c53b1 : ((Go.bits .and .u64 (ji52) 1) != 1) = true := bne_iff_ne.mpr c53
                  as_aux_lemma =>
                   have H' := Aside0.mk H
                   clear H
                   go_wp2
                   repeat (go_quiet (fail); try go_wp2)
                   go_roundg k5
                   case measure => have := HJ7.out; have := HJ15.out; have := HJ34.out; have := HJ39.out; have := HK5.out; omega
                   case rel => exact ⟨(x25_5), (wrap64 (x26_5 + 1)), (by first | rfl | (simp; done) | (simp [*]; done)), H', ⟨by have := HJ7.out; have := HJ15.out; have := HJ34.out; have := HJ39.out; have := HK5.out; omega⟩, ⟨by (with_reducible repeat (first | apply Kd.R_alloc | apply Kd.R_drewN | apply Kd.R_drew)); exact HO_25.out⟩, ⟨by repeat (first | (with_reducible first | exact HB.out | apply below_alloc | apply pw_below_drewN | apply below_drew1) | exact HB.out)⟩⟩
                · as_aux_lemma =>
                 rw [if_neg c51] at H
                 exact absurd H (by simp)
               · as_aux_lemma =>
                rw [if_neg c50] at H
                have c50b0 : decide (x26_5 < t101) = false := decide_eq_false c50
                clear c50
                replace H := Option.bind_eq_some_iff.mp H
                obtain ⟨⟨t127, t128⟩, A560, H⟩ := H
                replace H : ((check_Draw.f t101 (x25_5.length : Int) t127).bind fun bt129 => (if t128 = 0 then (if bt129.2 = 0 then ((peaveylaw10_Ints.f k5 bt129.1 x25_5).bind fun t133 => (if t133 = true then (peaveylaw10_CheckDrawn.j6 k5 t101 t103 t128 bt129.2 x25_5 bt129.1 (t103 == 0)) else (peaveylaw10_CheckDrawn.j6 k5 t101 t103 t128 bt129.2 x25_5 bt129.1 true))) else (peaveylaw10_CheckDrawn.j6 k5 t101 t103 t128 bt129.2 x25_5 bt129.1 true)) else (peaveylaw10_CheckDrawn.j6 k5 t101 t103 t128 bt129.2 x25_5 bt129.1 true))) = some r := H
                have A56 := Aside0.mk A560
                clear A560
                replace H := Option.bind_eq_some_iff.mp H
                obtain ⟨⟨t129, t130⟩, A570, H⟩ := H
                replace H : (if t128 = 0 then (if t130 = 0 then ((peaveylaw10_Ints.f k5 t129 x25_5).bind fun t133 => (if t133 = true then (peaveylaw10_CheckDrawn.j6 k5 t101 t103 t128 t130 x25_5 t129 (t103 == 0)) else (peaveylaw10_CheckDrawn.j6 k5 t101 t103 t128 t130 x25_5 t129 true))) else (peaveylaw10_CheckDrawn.j6 k5 t101 t103 t128 t130 x25_5 t129 true)) else (peaveylaw10_CheckDrawn.j6 k5 t101 t103 t128 t130 x25_5 t129 true)) = some r := H
                have A57 := Aside0.mk A570
                clear A570
                have HC58 := Aside0.mk H
                clear H
                obtain ⟨Ao59, co59, eo59⟩ := Kd.R_slice HO_25.out
                subst eo59
                go_upto_region 27 with (first | (go_at_call 28; (with_reducible refine (check_Number.calls t101 _ _ x25_5 t127 t128 _ ?side1 ?side2 A56.out).mono ?_); (case side1 => repeat (first | exact (Kd.R_reads' HO_25.out).2.2 | (with_reducible refine Kd.C_alloc ?_ _) | (with_reducible refine Kd.C_drewN ?_ _) | (with_reducible refine Kd.C_drew ?_))); (case side2 => exact (Kd.R_reads' HO_25.out).2.1); rintro e w60 ⟨rfl, hb⟩; have n0_ := Aside0.mk (Kd.R_below (by (with_reducible repeat (first | apply Kd.R_alloc | apply Kd.R_drewN | apply Kd.R_drew)); exact HO_25.out) hb); have n1_ := Aside0.mk (below_step (by repeat (first | (with_reducible first | exact HB.out | apply below_alloc | apply pw_below_drewN | apply below_drew1) | exact HB.out)) hb); clear HO_25; clear HB; have HO_25 := n0_; have HB := n1_; clear n0_ n1_; (try clear hb); (try clear hb2); (try clear hk); (try clear hi)) | (go_at_call 26; (with_reducible refine (check_Draw.calls t101 (x25_5.length : Int) t127 t129 t130 _ A57.out).mono ?_); rintro e w61 ⟨v131, rfl, ho0, hb⟩; have n0_ := Aside0.mk (Kd.R_elder' (by (with_reducible repeat (first | apply Kd.R_alloc | apply Kd.R_drewN | apply Kd.R_drew)); exact HO_25.out) (Kd.R_base ho0) hb); have n1_ := Aside0.mk (Kd.R_lower (Kd.R_new' ho0 (Kd.R_lt (by (with_reducible repeat (first | apply Kd.R_alloc | apply Kd.R_drewN | apply Kd.R_drew)); exact HO_25.out))) (below_size (by repeat (first | (with_reducible first | exact HB.out | apply below_alloc | apply pw_below_drewN | apply below_drew1) | exact HB.out)))); have n2_ := Aside0.mk (below_step (by repeat (first | (with_reducible first | exact HB.out | apply below_alloc | apply pw_below_drewN | apply below_drew1) | exact HB.out)) hb); clear HO_25; clear HB; have HO_25 := n0_; have HO132 := n1_; have HB := n2_; clear n0_ n1_ n2_; (try clear hb); (try clear hb2); (try clear hk); (try clear hi); (try clear ho0)))
                repeat (go_quiet (first | (go_at_call 28; (with_reducible refine (check_Number.calls t101 _ _ x25_5 t127 t128 _ ?side1 ?side2 A56.out).mono ?_); (case side1 => repeat (first | exact (Kd.R_reads' HO_25.out).2.2 | (with_reducible refine Kd.C_alloc ?_ _) | (with_reducible refine Kd.C_drewN ?_ _) | (with_reducible refine Kd.C_drew ?_))); (case side2 => exact (Kd.R_reads' HO_25.out).2.1); rintro e w60 ⟨rfl, hb⟩; have n0_ := Aside0.mk (Kd.R_below (by (with_reducible repeat (first | apply Kd.R_alloc | apply Kd.R_drewN | apply Kd.R_drew)); exact HO_25.out) hb); have n1_ := Aside0.mk (below_step (by repeat (first | (with_reducible first | exact HB.out | apply below_alloc | apply pw_below_drewN | apply below_drew1) | exact HB.out)) hb); clear HO_25; clear HB; have HO_25 := n0_; have HB := n1_; clear n0_ n1_; (try clear hb); (try clear hb2); (try clear hk); (try clear hi)) | (go_at_call 26; (with_reducible refine (check_Draw.calls t101 (x25_5.length : Int) t127 t129 t130 _ A57.out).mono ?_); rintro e w61 ⟨v131, rfl, ho0, hb⟩; have n0_ := Aside0.mk (Kd.R_elder' (by (with_reducible repeat (first | apply Kd.R_alloc | apply Kd.R_drewN | apply Kd.R_drew)); exact HO_25.out) (Kd.R_base ho0) hb); have n1_ := Aside0.mk (Kd.R_lower (Kd.R_new' ho0 (Kd.R_lt (by (with_reducible repeat (first | apply Kd.R_alloc | apply Kd.R_drewN | apply Kd.R_drew)); exact HO_25.out))) (below_size (by repeat (first | (with_reducible first | exact HB.out | apply below_alloc | apply pw_below_drewN | apply below_drew1) | exact HB.out)))); have n2_ := Aside0.mk (below_step (by repeat (first | (with_reducible first | exact HB.out | apply below_alloc | apply pw_below_drewN | apply below_drew1) | exact HB.out)) hb); clear HO_25; clear HB; have HO_25 := n0_; have HO132 := n1_; have HB := n2_; clear n0_ n1_ n2_; (try clear hb); (try clear hb2); (try clear hk); (try clear hi); (try clear ho0))); go_upto_region 27 with (first | (go_at_call 28; (with_reducible refine (check_Number.calls t101 _ _ x25_5 t127 t128 _ ?side1 ?side2 A56.out).mono ?_); (case side1 => repeat (first | exact (Kd.R_reads' HO_25.out).2.2 | (with_reducible refine Kd.C_alloc ?_ _) | (with_reducible refine Kd.C_drewN ?_ _) | (with_reducible refine Kd.C_drew ?_))); (case side2 => exact (Kd.R_reads' HO_25.out).2.1); rintro e w60 ⟨rfl, hb⟩; have n0_ := Aside0.mk (Kd.R_below (by (with_reducible repeat (first | apply Kd.R_alloc | apply Kd.R_drewN | apply Kd.R_drew)); exact HO_25.out) hb); have n1_ := Aside0.mk (below_step (by repeat (first | (with_reducible first | exact HB.out | apply below_alloc | apply pw_below_drewN | apply below_drew1) | exact HB.out)) hb); clear HO_25; clear HB; have HO_25 := n0_; have HB := n1_; clear n0_ n1_; (try clear hb); (try clear hb2); (try clear hk); (try clear hi)) | (go_at_call 26; (with_reducible refine (check_Draw.calls t101 (x25_5.length : Int) t127 t129 t130 _ A57.out).mono ?_); rintro e w61 ⟨v131, rfl, ho0, hb⟩; have n0_ := Aside0.mk (Kd.R_elder' (by (with_reducible repeat (first | apply Kd.R_alloc | apply Kd.R_drewN | apply Kd.R_drew)); exact HO_25.out) (Kd.R_base ho0) hb); have n1_ := Aside0.mk (Kd.R_lower (Kd.R_new' ho0 (Kd.R_lt (by (with_reducible repeat (first | apply Kd.R_alloc | apply Kd.R_drewN | apply Kd.R_drew)); exact HO_25.out))) (below_size (by repeat (first | (with_reducible first | exact HB.out | apply below_alloc | apply pw_below_drewN | apply below_drew1) | exact HB.out)))); have n2_ := Aside0.mk (below_step (by repeat (first | (with_reducible first | exact HB.out | apply below_alloc | apply pw_below_drewN | apply below_drew1) | exact HB.out)) hb); clear HO_25; clear HB; have HO_25 := n0_; have HO132 := n1_; have HB := n2_; clear n0_ n1_ n2_; (try clear hb); (try clear hb2); (try clear hk); (try clear hi); (try clear ho0))))
                (try simp only [Act.put, List.setIfInBounds_toArray, List.set_cons_zero, List.set_cons_succ])
                go_cut [190] (fun v190 wc => ∃ (kq : Nat) (x190_57 : Bool), v190 = .bool x190_57 ∧ Aside0 (peaveylaw10_CheckDrawn.j6 kq t101 t103 t128 t130 x25_5 t129 x190_57 = some r) ∧ Aside0 (kq ≤ k5) ∧ Aside0 (Kd.R (Kd.int .i64) 3 wc w.heap.size (fun k_ => some k_ ≠ (v131 : Value).ownBlock) (.slice Ao59 x25_5.length co59) x25_5) ∧ Aside0 (Kd.R (Kd.int .i64) 3 wc w.heap.size (fun k_ => some k_ ≠ ((.slice Ao59 x25_5.length co59) : Value).ownBlock) v131 t129) ∧ Aside0 (Below w.heap.size w wc))
                case first =>
                 have H := HC58.out
                 clear HC58
                 by_cases c62 : t128 = 0
                 · as_aux_lemma =>
                  rw [if_pos c62] at H
                  have c62b0 : (t128 == 0) = true := beq_iff_eq.mpr c62
                  have c62b1 : (t128 != 0) = false := bne_eq_false_iff_eq.mpr c62
                  clear c62
                  (first | rw [c62b0] | (simp only [i64_w, i32_w]; rw [c62b0]) | skip)
                  by_cases c63 : t130 = 0
                  · as_aux_lemma =>
                   rw [if_pos c63] at H
                   have c63b0 : (t130 == 0) = true := beq_iff_eq.mpr c63
                   have c63b1 : (t130 != 0) = false := bne_eq_false_iff_eq.mpr c63
                   clear c63
                   replace H := Option.bind_eq_some_iff.mp H
                   obtain ⟨t133, A640, H⟩ := H
                   replace H : (if t133 = true then (peaveylaw10_CheckDrawn.j6 k5 t101 t103 t128 t130 x25_5 t129 (t103 == 0)) else (peaveylaw10_CheckDrawn.j6 k5 t101 t103 t128 t130 x25_5 t129 true)) = some r := H
                   have A64 := Aside0.mk A640
                   clear A640
                   by_cases c65 : t133 = true
                   · as_aux_lemma =>
                    subst c65
                    have H1 : (peaveylaw10_CheckDrawn.j6 k5 t101 t103 t128 t130 x25_5 t129 (t103 == 0)) = some r := by rw [if_pos rfl] at H; exact H
                    clear H
                    have H := H1
                    clear H1
                    as_aux_lemma =>
                     have H' := Aside0.mk H
                     clear H
                     obtain ⟨Ao66, co66, eo66⟩ := Kd.R_slice HO132.out
                     subst eo66
                     go_wp2_with (first | (go_at_call 30; (with_reducible refine (peaveylaw10_Ints.calls k5 _ _ t129 _ _ x25_5 true _ ?side1 ?side2 ?side3 ?side4 A64.out).mono ?_); (case side1 => repeat (first | exact (Kd.R_reads' HO132.out).2.2 | (with_reducible refine Kd.C_alloc ?_ _) | (with_reducible refine Kd.C_drewN ?_ _) | (with_reducible refine Kd.C_drew ?_))); (case side2 => exact (Kd.R_reads' HO132.out).2.1); (case side3 => repeat (first | exact (Kd.R_reads' HO_25.out).2.2 | (with_reducible refine Kd.C_alloc ?_ _) | (with_reducible refine Kd.C_drewN ?_ _) | (with_reducible refine Kd.C_drew ?_))); (case side4 => exact (Kd.R_reads' HO_25.out).2.1); rintro e w' ⟨rfl, ⟨nd, rfl⟩⟩; (try first | exact ⟨rfl, _, World.drewN_drewN _ _ _⟩ | exact ⟨rfl, _, Eq.trans (World.drewN_drewN _ _ _) (congrArg (World.drewN _) (Nat.add_assoc _ _ _))⟩)))
                     repeat (go_quiet (first | (go_at_call 30; (with_reducible refine (peaveylaw10_Ints.calls k5 _ _ t129 _ _ x25_5 true _ ?side1 ?side2 ?side3 ?side4 A64.out).mono ?_); (case side1 => repeat (first | exact (Kd.R_reads' HO132.out).2.2 | (with_reducible refine Kd.C_alloc ?_ _) | (with_reducible refine Kd.C_drewN ?_ _) | (with_reducible refine Kd.C_drew ?_))); (case side2 => exact (Kd.R_reads' HO132.out).2.1); (case side3 => repeat (first | exact (Kd.R_reads' HO_25.out).2.2 | (with_reducible refine Kd.C_alloc ?_ _) | (with_reducible refine Kd.C_drewN ?_ _) | (with_reducible refine Kd.C_drew ?_))); (case side4 => exact (Kd.R_reads' HO_25.out).2.1); rintro e w' ⟨rfl, ⟨nd, rfl⟩⟩; (try first | exact ⟨rfl, _, World.drewN_drewN _ _ _⟩ | exact ⟨rfl, _, Eq.trans (World.drewN_drewN _ _ _) (congrArg (World.drewN _) (Nat.add_assoc _ _ _))⟩))); try go_wp2_with (first | (go_at_call 30; (with_reducible refine (peaveylaw10_Ints.calls k5 _ _ t129 _ _ x25_5 true _ ?side1 ?side2 ?side3 ?side4 A64.out).mono ?_); (case side1 => repeat (first | exact (Kd.R_reads' HO132.out).2.2 | (with_reducible refine Kd.C_alloc ?_ _) | (with_reducible refine Kd.C_drewN ?_ _) | (with_reducible refine Kd.C_drew ?_))); (case side2 => exact (Kd.R_reads' HO132.out).2.1); (case side3 => repeat (first | exact (Kd.R_reads' HO_25.out).2.2 | (with_reducible refine Kd.C_alloc ?_ _) | (with_reducible refine Kd.C_drewN ?_ _) | (with_reducible refine Kd.C_drew ?_))); (case side4 => exact (Kd.R_reads' HO_25.out).2.1); rintro e w' ⟨rfl, ⟨nd, rfl⟩⟩; (try first | exact ⟨rfl, _, World.drewN_drewN _ _ _⟩ | exact ⟨rfl, _, Eq.trans (World.drewN_drewN _ _ _) (congrArg (World.drewN _) (Nat.add_assoc _ _ _))⟩))))
                     go_meet
                     case rel => exact ⟨_, ((t103 == 0)), (by first | rfl | (simp; done) | (simp [*]; done)), H', ⟨by have := HJ7.out; have := HJ15.out; have := HJ34.out; have := HJ39.out; have := HK5.out; first | omega | exact Nat.le_refl _⟩, ⟨by (with_reducible repeat (first | apply Kd.R_alloc | apply Kd.R_drewN | apply Kd.R_drew)); exact Kd.R_mono HO_25.out (fun _ hk => hk.2)⟩, ⟨by (with_reducible repeat (first | apply Kd.R_alloc | apply Kd.R_drewN | apply Kd.R_drew)); exact Kd.R_mono HO132.out (fun _ hk => hk.2)⟩, ⟨by repeat (first | (with_reducible first | exact HB.out | apply below_alloc | apply pw_below_drewN | apply below_drew1) | exact HB.out)⟩⟩
                   · as_aux_lemma =>
                    replace c65 := Bool.eq_false_iff.mpr c65
                    subst c65
                    have H1 : (peaveylaw10_CheckDrawn.j6 k5 t101 t103 t128 t130 x25_5 t129 true) = some r := by rw [if_neg (show ¬ (false = true) by decide)] at H; exact H
                    clear H
                    have H := H1
                    clear H1
                    as_aux_lemma =>
                     have H' := Aside0.mk H
                     clear H
                     obtain ⟨Ao67, co67, eo67⟩ := Kd.R_slice HO132.out
                     subst eo67
                     go_wp2_with (first | (go_at_call 30; (with_reducible refine (peaveylaw10_Ints.calls k5 _ _ t129 _ _ x25_5 false _ ?side1 ?side2 ?side3 ?side4 A64.out).mono ?_); (case side1 => repeat (first | exact (Kd.R_reads' HO132.out).2.2 | (with_reducible refine Kd.C_alloc ?_ _) | (with_reducible refine Kd.C_drewN ?_ _) | (with_reducible refine Kd.C_drew ?_))); (case side2 => exact (Kd.R_reads' HO132.out).2.1); (case side3 => repeat (first | exact (Kd.R_reads' HO_25.out).2.2 | (with_reducible refine Kd.C_alloc ?_ _) | (with_reducible refine Kd.C_drewN ?_ _) | (with_reducible refine Kd.C_drew ?_))); (case side4 => exact (Kd.R_reads' HO_25.out).2.1); rintro e w' ⟨rfl, ⟨nd, rfl⟩⟩; (try first | exact ⟨rfl, _, World.drewN_drewN _ _ _⟩ | exact ⟨rfl, _, Eq.trans (World.drewN_drewN _ _ _) (congrArg (World.drewN _) (Nat.add_assoc _ _ _))⟩)))
                     repeat (go_quiet (first | (go_at_call 30; (with_reducible refine (peaveylaw10_Ints.calls k5 _ _ t129 _ _ x25_5 false _ ?side1 ?side2 ?side3 ?side4 A64.out).mono ?_); (case side1 => repeat (first | exact (Kd.R_reads' HO132.out).2.2 | (with_reducible refine Kd.C_alloc ?_ _) | (with_reducible refine Kd.C_drewN ?_ _) | (with_reducible refine Kd.C_drew ?_))); (case side2 => exact (Kd.R_reads' HO132.out).2.1); (case side3 => repeat (first | exact (Kd.R_reads' HO_25.out).2.2 | (with_reducible refine Kd.C_alloc ?_ _) | (with_reducible refine Kd.C_drewN ?_ _) | (with_reducible refine Kd.C_drew ?_))); (case side4 => exact (Kd.R_reads' HO_25.out).2.1); rintro e w' ⟨rfl, ⟨nd, rfl⟩⟩; (try first | exact ⟨rfl, _, World.drewN_drewN _ _ _⟩ | exact ⟨rfl, _, Eq.trans (World.drewN_drewN _ _ _) (congrArg (World.drewN _) (Nat.add_assoc _ _ _))⟩))); try go_wp2_with (first | (go_at_call 30; (with_reducible refine (peaveylaw10_Ints.calls k5 _ _ t129 _ _ x25_5 false _ ?side1 ?side2 ?side3 ?side4 A64.out).mono ?_); (case side1 => repeat (first | exact (Kd.R_reads' HO132.out).2.2 | (with_reducible refine Kd.C_alloc ?_ _) | (with_reducible refine Kd.C_drewN ?_ _) | (with_reducible refine Kd.C_drew ?_))); (case side2 => exact (Kd.R_reads' HO132.out).2.1); (case side3 => repeat (first | exact (Kd.R_reads' HO_25.out).2.2 | (with_reducible refine Kd.C_alloc ?_ _) | (with_reducible refine Kd.C_drewN ?_ _) | (with_reducible refine Kd.C_drew ?_))); (case side4 => exact (Kd.R_reads' HO_25.out).2.1); rintro e w' ⟨rfl, ⟨nd, rfl⟩⟩; (try first | exact ⟨rfl, _, World.drewN_drewN _ _ _⟩ | exact ⟨rfl, _, Eq.trans (World.drewN_drewN _ _ _) (congrArg (World.drewN _) (Nat.add_assoc _ _ _))⟩))))
                     go_meet
                     case rel => exact ⟨_, (true), (by first | rfl | (simp; done) | (simp [*]; done)), H', ⟨by have := HJ7.out; have := HJ15.out; have := HJ34.out; have := HJ39.out; have := HK5.out; first | omega | exact Nat.le_refl _⟩, ⟨by (with_reducible repeat (first | apply Kd.R_alloc | apply Kd.R_drewN | apply Kd.R_drew)); exact Kd.R_mono HO_25.out (fun _ hk => hk.2)⟩, ⟨by (with_reducible repeat (first | apply Kd.R_alloc | apply Kd.R_drewN | apply Kd.R_drew)); exact Kd.R_mono HO132.out (fun _ hk => hk.2)⟩, ⟨by repeat (first | (with_reducible first | exact HB.out | apply below_alloc | apply pw_below_drewN | apply below_drew1) | exact HB.out)⟩⟩
                  · as_aux_lemma =>
                   rw [if_neg c63] at H
                   have c63b0 : (t130 == 0) = false := beq_eq_false_iff_ne.mpr c63
                   have c63b1 : (t130 != 0) = true := bne_iff_ne.mpr c63
                   as_aux_lemma =>
                    have H' := Aside0.mk H
                    clear H
                    go_wp2
                    repeat (go_quiet (fail); try go_wp2)
                    go_meet
                    case rel => exact ⟨_, (true), (by first | rfl | (simp; done) | (simp [*]; done)), H', ⟨by have := HJ7.out; have := HJ15.out; have := HJ34.out; have := HJ39.out; have := HK5.out; first | omega | exact Nat.le_refl _⟩, ⟨by (with_reducible repeat (first | apply Kd.R_alloc | apply Kd.R_drewN | apply Kd.R_drew)); exact Kd.R_mono HO_25.out (fun _ hk => hk.2)⟩, ⟨by (with_reducible repeat (first | apply Kd.R_alloc | apply Kd.R_drewN | apply Kd.R_drew)); exact Kd.R_mono HO132.out (fun _ hk => hk.2)⟩, ⟨by repeat (first | (with_reducible first | exact HB.out | apply below_alloc | apply pw_below_drewN | apply below_drew1) | exact HB.out)⟩⟩
                 · as_aux_lemma =>
                  rw [if_neg c62] at H
                  have c62b0 : (t128 == 0) = false := beq_eq_false_iff_ne.mpr c62
                  have c62b1 : (t128 != 0) = true := bne_iff_ne.mpr c62
                  (first | rw [c62b0] | (simp only [i64_w, i32_w]; rw [c62b0]) | skip)
                  as_aux_lemma =>
                   have H' := Aside0.mk H
                   clear H
                   go_wp2
                   repeat (go_quiet (fail); try go_wp2)
                   go_meet
                   case rel => exact ⟨_, (true), (by first | rfl | (simp; done) | (simp [*]; done)), H', ⟨by have := HJ7.out; have := HJ15.out; have := HJ34.out; have := HJ39.out; have := HK5.out; first | omega | exact Nat.le_refl _⟩, ⟨by (with_reducible repeat (first | apply Kd.R_alloc | apply Kd.R_drewN | apply Kd.R_drew)); exact Kd.R_mono HO_25.out (fun _ hk => hk.2)⟩, ⟨by (with_reducible repeat (first | apply Kd.R_alloc | apply Kd.R_drewN | apply Kd.R_drew)); exact Kd.R_mono HO132.out (fun _ hk => hk.2)⟩, ⟨by repeat (first | (with_reducible first | exact HB.out | apply below_alloc | apply pw_below_drewN | apply below_drew1) | exact HB.out)⟩⟩
                case rest =>
                 clear HC58
                 try clear c1
                 try clear p1
                 try clear q1
                 try clear hx1
                 try clear c2
                 try clear p2
                 try clear c3
                 try clear c4
                 try clear c5
                 try clear c6
                 try clear p6
                 try clear c10
                 try clear c10b0
                 try clear c10b1
                 try clear c11
                 try clear c12
                 try clear p12
                 try clear q12
                 try clear hx12
                 try clear c13
                 try clear c13b0
                 try clear c13b1
                 try clear c19
                 try clear c19b0
                 try clear c19b1
                 try clear c20
                 try clear c20b0
                 try clear c20b1
                 try clear c21
                 try clear c21b0
                 try clear c21b1
                 try clear c22
                 try clear c22b0
                 try clear c22b1
                 try clear c24
                 try clear c33
                 try clear c38
                 try clear c38b0
                 try clear c38b1
                 try clear c39
                 try clear c41
                 try clear c41b0
                 try clear c42
                 try clear c42b0
                 try clear c43
                 try clear c43b0
                 try clear c44
                 try clear c44b0
                 try clear c45
                 try clear c45b0
                 try clear c45b1
                 try clear c47
                 try clear c47b0
                 try clear c47b1
                 try clear c47b2
                 try clear c50
                 try clear c50b0
                 try clear c51
                 try clear c51b0
                 try clear c51b1
                 try clear c53
                 try clear c53b0
                 try clear c53b1
                 try clear c54
                 try clear c62
                 try clear c62b0
                 try clear c62b1
                 try clear c63
                 try clear c63b0
                 try clear c63b1
                 try clear p64
                 try clear c65
                 try clear hx120_0
                 try clear hx121_0
                 try clear hx122_0
                 try clear hx123_0
                 try clear p1
                 try clear p12
                 try clear p120
                 try clear p121
                 try clear p122
                 try clear p123
                 try clear p2
                 try clear p6
                 try clear q1
                 try clear q12
                 try clear q120
                 try clear q121
                 try clear q122
                 try clear q123
                 obtain ⟨kq, x190_57, rfl, HA, HJ57, HO_25, HO_27, HB⟩ := hcut
                 cases kq with
                 | zero => exact absurd HA.out (by simp [peaveylaw10_CheckDrawn.j6])
                 | succ kj57 =>
                  have H := HA.out
                  clear HA
                  simp only [peaveylaw10_CheckDrawn.j6] at H
                  by_cases c68 : x190_57 = true
                  · as_aux_lemma =>
                   subst c68
                   have H1 : (if t128 = 0 then (if t130 = 0 then ((peaveylaw10_Ints.f kj57 t129 x25_5).bind fun t134 => (if t134 = true then ((peaveylaw10_Works.f).bind fun t135 => (some t135)) else (some false))) else (some false)) else (some false)) = some r := by rw [if_pos rfl] at H; exact H
                   clear H
                   have H := H1
                   clear H1
                   by_cases c69 : t128 = 0
                   · as_aux_lemma =>
                    rw [if_pos c69] at H
                    have c69b0 : (t128 == 0) = true := beq_iff_eq.mpr c69
                    have c69b1 : (t128 != 0) = false := bne_eq_false_iff_eq.mpr c69
                    clear c69
                    by_cases c70 : t130 = 0
                    · as_aux_lemma =>
                     rw [if_pos c70] at H
                     have c70b0 : (t130 == 0) = true := beq_iff_eq.mpr c70
                     have c70b1 : (t130 != 0) = false := bne_eq_false_iff_eq.mpr c70
                     clear c70
                     replace H := Option.bind_eq_some_iff.mp H
                     obtain ⟨t134, A710, H⟩ := H
                     replace H : (if t134 = true then ((peaveylaw10_Works.f).bind fun t135 => (some t135)) else (some false)) = some r := H
                     have A71 := Aside0.mk A710
                     clear A710
                     by_cases c72 : t134 = true
                     · as_aux_lemma =>
                      subst c72
                      have H1 : ((peaveylaw10_Works.f).bind fun t135 => (some t135)) = some r := by rw [if_pos rfl] at H; exact H
                      clear H
                      have H := H1
                      clear H1
                      replace H := Option.bind_eq_some_iff.mp H
                      obtain ⟨t135, A730, H⟩ := H
                      replace H : (some t135) = some r := H
                      have A73 := Aside0.mk A730
                      clear A730
                      as_aux_lemma =>
                       obtain rfl := Option.some.inj H
                       obtain ⟨Ao74, co74, eo74⟩ := Kd.R_slice HO_27.out
                       subst eo74
                       go_wp2_with (first | (go_at_call 30; (with_reducible refine (peaveylaw10_Ints.calls kj57 _ _ t129 _ _ x25_5 true _ ?side1 ?side2 ?side3 ?side4 A71.out).mono ?_); (case side1 => repeat (first | exact (Kd.R_reads' HO_27.out).2.2 | (with_reducible refine Kd.C_alloc ?_ _) | (with_reducible refine Kd.C_drewN ?_ _) | (with_reducible refine Kd.C_drew ?_))); (case side2 => exact (Kd.R_reads' HO_27.out).2.1); (case side3 => repeat (first | exact (Kd.R_reads' HO_25.out).2.2 | (with_reducible refine Kd.C_alloc ?_ _) | (with_reducible refine Kd.C_drewN ?_ _) | (with_reducible refine Kd.C_drew ?_))); (case side4 => exact (Kd.R_reads' HO_25.out).2.1); rintro e w' ⟨rfl, ⟨nd, rfl⟩⟩; (try first | exact ⟨rfl, _, World.drewN_drewN _ _ _⟩ | exact ⟨rfl, _, Eq.trans (World.drewN_drewN _ _ _) (congrArg (World.drewN _) (Nat.add_assoc _ _ _))⟩)) | (go_at_call 25; (with_reducible refine (peaveylaw10_Works.calls  t135 _ A73.out).mono ?_); rintro e w75 ⟨rfl, hb⟩; have n0_ := Aside0.mk (Kd.R_below (by (with_reducible repeat (first | apply Kd.R_alloc | apply Kd.R_drewN | apply Kd.R_drew)); exact HO_25.out) hb); have n1_ := Aside0.mk (Kd.R_below (by (with_reducible repeat (first | apply Kd.R_alloc | apply Kd.R_drewN | apply Kd.R_drew)); exact HO_27.out) hb); have n2_ := Aside0.mk (below_step (by repeat (first | (with_reducible first | exact HB.out | apply below_alloc | apply pw_below_drewN | apply below_drew1) | exact HB.out)) hb); clear HO_25; clear HO_27; clear HB; have HO_25 := n0_; have HO_27 := n1_; have HB := n2_; clear n0_ n1_ n2_; (try clear hb); (try clear hb2); (try clear hk); (try clear hi)))
                       repeat (go_quiet (first | (go_at_call 30; (with_reducible refine (peaveylaw10_Ints.calls kj57 _ _ t129 _ _ x25_5 true _ ?side1 ?side2 ?side3 ?side4 A71.out).mono ?_); (case side1 => repeat (first | exact (Kd.R_reads' HO_27.out).2.2 | (with_reducible refine Kd.C_alloc ?_ _) | (with_reducible refine Kd.C_drewN ?_ _) | (with_reducible refine Kd.C_drew ?_))); (case side2 => exact (Kd.R_reads' HO_27.out).2.1); (case side3 => repeat (first | exact (Kd.R_reads' HO_25.out).2.2 | (with_reducible refine Kd.C_alloc ?_ _) | (with_reducible refine Kd.C_drewN ?_ _) | (with_reducible refine Kd.C_drew ?_))); (case side4 => exact (Kd.R_reads' HO_25.out).2.1); rintro e w' ⟨rfl, ⟨nd, rfl⟩⟩; (try first | exact ⟨rfl, _, World.drewN_drewN _ _ _⟩ | exact ⟨rfl, _, Eq.trans (World.drewN_drewN _ _ _) (congrArg (World.drewN _) (Nat.add_assoc _ _ _))⟩)) | (go_at_call 25; (with_reducible refine (peaveylaw10_Works.calls  t135 _ A73.out).mono ?_); rintro e w75 ⟨rfl, hb⟩; have n0_ := Aside0.mk (Kd.R_below (by (with_reducible repeat (first | apply Kd.R_alloc | apply Kd.R_drewN | apply Kd.R_drew)); exact HO_25.out) hb); have n1_ := Aside0.mk (Kd.R_below (by (with_reducible repeat (first | apply Kd.R_alloc | apply Kd.R_drewN | apply Kd.R_drew)); exact HO_27.out) hb); have n2_ := Aside0.mk (below_step (by repeat (first | (with_reducible first | exact HB.out | apply below_alloc | apply pw_below_drewN | apply below_drew1) | exact HB.out)) hb); clear HO_25; clear HO_27; clear HB; have HO_25 := n0_; have HO_27 := n1_; have HB := n2_; clear n0_ n1_ n2_; (try clear hb); (try clear hb2); (try clear hk); (try clear hi))); try go_wp2_with (first | (go_at_call 30; (with_reducible refine (peaveylaw10_Ints.calls kj57 _ _ t129 _ _ x25_5 true _ ?side1 ?side2 ?side3 ?side4 A71.out).mono ?_); (case side1 => repeat (first | exact (Kd.R_reads' HO_27.out).2.2 | (with_reducible refine Kd.C_alloc ?_ _) | (with_reducible refine Kd.C_drewN ?_ _) | (with_reducible refine Kd.C_drew ?_))); (case side2 => exact (Kd.R_reads' HO_27.out).2.1); (case side3 => repeat (first | exact (Kd.R_reads' HO_25.out).2.2 | (with_reducible refine Kd.C_alloc ?_ _) | (with_reducible refine Kd.C_drewN ?_ _) | (with_reducible refine Kd.C_drew ?_))); (case side4 => exact (Kd.R_reads' HO_25.out).2.1); rintro e w' ⟨rfl, ⟨nd, rfl⟩⟩; (try first | exact ⟨rfl, _, World.drewN_drewN _ _ _⟩ | exact ⟨rfl, _, Eq.trans (World.drewN_drewN _ _ _) (congrArg (World.drewN _) (Nat.add_assoc _ _ _))⟩)) | (go_at_call 25; (with_reducible refine (peaveylaw10_Works.calls  t135 _ A73.out).mono ?_); rintro e w75 ⟨rfl, hb⟩; have n0_ := Aside0.mk (Kd.R_below (by (with_reducible repeat (first | apply Kd.R_alloc | apply Kd.R_drewN | apply Kd.R_drew)); exact HO_25.out) hb); have n1_ := Aside0.mk (Kd.R_below (by (with_reducible repeat (first | apply Kd.R_alloc | apply Kd.R_drewN | apply Kd.R_drew)); exact HO_27.out) hb); have n2_ := Aside0.mk (below_step (by repeat (first | (with_reducible first | exact HB.out | apply below_alloc | apply pw_below_drewN | apply below_drew1) | exact HB.out)) hb); clear HO_25; clear HO_27; clear HB; have HO_25 := n0_; have HO_27 := n1_; have HB := n2_; clear n0_ n1_ n2_; (try clear hb); (try clear hb2); (try clear hk); (try clear hi))))
                       go_ret
                       exact ⟨by first | rfl | (simp [errW_none, errW_some] <;> rfl) | (simp [*, errW_none, errW_some] <;> rfl), by repeat (first | (with_reducible first | exact HB.out | apply below_alloc | apply pw_below_drewN | apply below_drew1) | exact HB.out)⟩
                     · as_aux_lemma =>
                      replace c72 := Bool.eq_false_iff.mpr c72
                      subst c72
                      have H1 : (some false) = some r := by rw [if_neg (show ¬ (false = true) by decide)] at H; exact H
                      clear H
                      have H := H1
                      clear H1
                      as_aux_lemma =>
                       obtain rfl := Option.some.inj H
                       obtain ⟨Ao76, co76, eo76⟩ := Kd.R_slice HO_27.out
                       subst eo76
                       go_wp2_with (first | (go_at_call 30; (with_reducible refine (peaveylaw10_Ints.calls kj57 _ _ t129 _ _ x25_5 false _ ?side1 ?side2 ?side3 ?side4 A71.out).mono ?_); (case side1 => repeat (first | exact (Kd.R_reads' HO_27.out).2.2 | (with_reducible refine Kd.C_alloc ?_ _) | (with_reducible refine Kd.C_drewN ?_ _) | (with_reducible refine Kd.C_drew ?_))); (case side2 => exact (Kd.R_reads' HO_27.out).2.1); (case side3 => repeat (first | exact (Kd.R_reads' HO_25.out).2.2 | (with_reducible refine Kd.C_alloc ?_ _) | (with_reducible refine Kd.C_drewN ?_ _) | (with_reducible refine Kd.C_drew ?_))); (case side4 => exact (Kd.R_reads' HO_25.out).2.1); rintro e w' ⟨rfl, ⟨nd, rfl⟩⟩; (try first | exact ⟨rfl, _, World.drewN_drewN _ _ _⟩ | exact ⟨rfl, _, Eq.trans (World.drewN_drewN _ _ _) (congrArg (World.drewN _) (Nat.add_assoc _ _ _))⟩)))
                       repeat (go_quiet (first | (go_at_call 30; (with_reducible refine (peaveylaw10_Ints.calls kj57 _ _ t129 _ _ x25_5 false _ ?side1 ?side2 ?side3 ?side4 A71.out).mono ?_); (case side1 => repeat (first | exact (Kd.R_reads' HO_27.out).2.2 | (with_reducible refine Kd.C_alloc ?_ _) | (with_reducible refine Kd.C_drewN ?_ _) | (with_reducible refine Kd.C_drew ?_))); (case side2 => exact (Kd.R_reads' HO_27.out).2.1); (case side3 => repeat (first | exact (Kd.R_reads' HO_25.out).2.2 | (with_reducible refine Kd.C_alloc ?_ _) | (with_reducible refine Kd.C_drewN ?_ _) | (with_reducible refine Kd.C_drew ?_))); (case side4 => exact (Kd.R_reads' HO_25.out).2.1); rintro e w' ⟨rfl, ⟨nd, rfl⟩⟩; (try first | exact ⟨rfl, _, World.drewN_drewN _ _ _⟩ | exact ⟨rfl, _, Eq.trans (World.drewN_drewN _ _ _) (congrArg (World.drewN _) (Nat.add_assoc _ _ _))⟩))); try go_wp2_with (first | (go_at_call 30; (with_reducible refine (peaveylaw10_Ints.calls kj57 _ _ t129 _ _ x25_5 false _ ?side1 ?side2 ?side3 ?side4 A71.out).mono ?_); (case side1 => repeat (first | exact (Kd.R_reads' HO_27.out).2.2 | (with_reducible refine Kd.C_alloc ?_ _) | (with_reducible refine Kd.C_drewN ?_ _) | (with_reducible refine Kd.C_drew ?_))); (case side2 => exact (Kd.R_reads' HO_27.out).2.1); (case side3 => repeat (first | exact (Kd.R_reads' HO_25.out).2.2 | (with_reducible refine Kd.C_alloc ?_ _) | (with_reducible refine Kd.C_drewN ?_ _) | (with_reducible refine Kd.C_drew ?_))); (case side4 => exact (Kd.R_reads' HO_25.out).2.1); rintro e w' ⟨rfl, ⟨nd, rfl⟩⟩; (try first | exact ⟨rfl, _, World.drewN_drewN _ _ _⟩ | exact ⟨rfl, _, Eq.trans (World.drewN_drewN _ _ _) (congrArg (World.drewN _) (Nat.add_assoc _ _ _))⟩))))
                       go_ret
                       exact ⟨by first | rfl | (simp [errW_none, errW_some] <;> rfl) | (simp [*, errW_none, errW_some] <;> rfl), by repeat (first | (with_reducible first | exact HB.out | apply below_alloc | apply pw_below_drewN | apply below_drew1) | exact HB.out)⟩
                    · as_aux_lemma =>
                     rw [if_neg c70] at H
                     have c70b0 : (t130 == 0) = false := beq_eq_false_iff_ne.mpr c70
                     have c70b1 : (t130 != 0) = true := bne_iff_ne.mpr c70
                     as_aux_lemma =>
                      obtain rfl := Option.some.inj H
                      go_wp2
                      repeat (go_quiet (fail); try go_wp2)
                      go_ret
                      exact ⟨by first | rfl | (simp [errW_none, errW_some] <;> rfl) | (simp [*, errW_none, errW_some] <;> rfl), by repeat (first | (with_reducible first | exact HB.out | apply below_alloc | apply pw_below_drewN | apply below_drew1) | exact HB.out)⟩
                   · as_aux_lemma =>
                    rw [if_neg c69] at H
                    have c69b0 : (t128 == 0) = false := beq_eq_false_iff_ne.mpr c69
                    have c69b1 : (t128 != 0) = true := bne_iff_ne.mpr c69
                    as_aux_lemma =>
                     obtain rfl := Option.some.inj H
                     go_wp2
                     repeat (go_quiet (fail); try go_wp2)
                     go_ret
                     exact ⟨by first | rfl | (simp [errW_none, errW_some] <;> rfl) | (simp [*, errW_none, errW_some] <;> rfl), by repeat (first | (with_reducible first | exact HB.out | apply below_alloc | apply pw_below_drewN | apply below_drew1) | exact HB.out)⟩
                  · as_aux_lemma =>
                   replace c68 := Bool.eq_false_iff.mpr c68
                   subst c68
                   have H1 : ((check_Choose.f (wrap64 (t101 - 1)) (wrap64 (t103 - 1))).bind fun bt136 => (if bt136.2 = 0 then ((check_Draw.f t101 t103 (wrap64 (bt136.1 - 1))).bind fun bt138 => (if bt138.2 = 0 then (if (bt138.1.length : Int) = t103 then (if 0 < (bt138.1.length : Int) then (if (rd bt138.1 0) = 0 then ((peaveylaw10_Works.f).bind fun t143 => (some t143)) else (some false)) else (none)) else (some false)) else (some false))) else (some false))) = some r := by rw [if_neg (show ¬ (false = true) by decide)] at H; exact H
                   clear H
                   have H := H1
                   clear H1
                   replace H := Option.bind_eq_some_iff.mp H
                   obtain ⟨⟨t136, t137⟩, A770, H⟩ := H
                   replace H : (if t137 = 0 then ((check_Draw.f t101 t103 (wrap64 (t136 - 1))).bind fun bt138 => (if bt138.2 = 0 then (if (bt138.1.length : Int) = t103 then (if 0 < (bt138.1.length : Int) then (if (rd bt138.1 0) = 0 then ((peaveylaw10_Works.f).bind fun t143 => (some t143)) else (some false)) else (none)) else (some false)) else (some false))) else (some false)) = some r := H
                   have A77 := Aside0.mk A770
                   clear A770
                   by_cases c78 : t137 = 0
                   · as_aux_lemma =>
                    rw [if_pos c78] at H
                    have c78b0 : (t137 == 0) = true := beq_iff_eq.mpr c78
                    have c78b1 : (t137 != 0) = false := bne_eq_false_iff_eq.mpr c78
                    clear c78
                    replace H := Option.bind_eq_some_iff.mp H
                    obtain ⟨⟨t138, t139⟩, A790, H⟩ := H
                    replace H : (if t139 = 0 then (if (t138.length : Int) = t103 then (if 0 < (t138.length : Int) then (if (rd t138 0) = 0 then ((peaveylaw10_Works.f).bind fun t143 => (some t143)) else (some false)) else (none)) else (some false)) else (some false)) = some r := H
                    have A79 := Aside0.mk A790
                    clear A790
                    by_cases c80 : t139 = 0
                    · as_aux_lemma =>
                     rw [if_pos c80] at H
                     have c80b0 : (t139 == 0) = true := beq_iff_eq.mpr c80
                     have c80b1 : (t139 != 0) = false := bne_eq_false_iff_eq.mpr c80
                     clear c80
                     by_cases c81 : (t138.length : Int) = t103
                     · as_aux_lemma =>
                      rw [if_pos c81] at H
                      have c81b0 : ((t138.length : Int) == t103) = true := beq_iff_eq.mpr c81
                      have c81b1 : ((t138.length : Int) != t103) = false := bne_eq_false_iff_eq.mpr c81
                      clear c81
                      by_cases c82 : 0 < (t138.length : Int)
                      · as_aux_lemma =>
                       rw [if_pos c82] at H
                       have c82b0 : decide (0 < (t138.length : Int)) = true := decide_eq_true c82
                       have c82b1 : decide (0 < t138.length) = true := decide_eq_true (by omega)
                       clear c82
                       by_cases c83 : (rd t138 0) = 0
                       · as_aux_lemma =>
                        rw [if_pos c83] at H
                        have c83b0 : ((rd t138 0) == 0) = true := beq_iff_eq.mpr c83
                        have c83b1 : ((rd t138 0) != 0) = false := bne_eq_false_iff_eq.mpr c83
                        clear c83
                        replace H := Option.bind_eq_some_iff.mp H
                        obtain ⟨t143, A840, H⟩ := H
                        replace H : (some t143) = some r := H
                        have A84 := Aside0.mk A840
                        clear A840
                        as_aux_lemma =>
                         obtain rfl := Option.some.inj H
                         go_wp2_with (first | (go_at_call 17; (with_reducible refine (check_Choose.calls (wrap64 (t101 - 1)) (wrap64 (t103 - 1)) t136 t137 _ A77.out).mono ?_); rintro e w85 ⟨rfl, hb⟩; have n0_ := Aside0.mk (Kd.R_below (by (with_reducible repeat (first | apply Kd.R_alloc | apply Kd.R_drewN | apply Kd.R_drew)); exact HO_25.out) hb); have n1_ := Aside0.mk (Kd.R_below (by (with_reducible repeat (first | apply Kd.R_alloc | apply Kd.R_drewN | apply Kd.R_drew)); exact HO_27.out) hb); have n2_ := Aside0.mk (below_step (by repeat (first | (with_reducible first | exact HB.out | apply below_alloc | apply pw_below_drewN | apply below_drew1) | exact HB.out)) hb); clear HO_25; clear HO_27; clear HB; have HO_25 := n0_; have HO_27 := n1_; have HB := n2_; clear n0_ n1_ n2_; (try clear hb); (try clear hb2); (try clear hk); (try clear hi)) | (go_at_call 26; (with_reducible refine (check_Draw.calls t101 t103 (wrap64 (t136 - 1)) t138 t139 _ A79.out).mono ?_); rintro e w86 ⟨v140, rfl, ho0, hb⟩; have n0_ := Aside0.mk (Kd.R_elder' (by (with_reducible repeat (first | apply Kd.R_alloc | apply Kd.R_drewN | apply Kd.R_drew)); exact HO_25.out) (Kd.R_base ho0) hb); have n1_ := Aside0.mk (Kd.R_elder' (by (with_reducible repeat (first | apply Kd.R_alloc | apply Kd.R_drewN | apply Kd.R_drew)); exact HO_27.out) (Kd.R_base ho0) hb); have n2_ := Aside0.mk (Kd.R_lower (Kd.R_new' (Kd.R_new' ho0 (Kd.R_lt (by (with_reducible repeat (first | apply Kd.R_alloc | apply Kd.R_drewN | apply Kd.R_drew)); exact HO_25.out))) (Kd.R_lt (by (with_reducible repeat (first | apply Kd.R_alloc | apply Kd.R_drewN | apply Kd.R_drew)); exact HO_27.out))) (below_size (by repeat (first | (with_reducible first | exact HB.out | apply below_alloc | apply pw_below_drewN | apply below_drew1) | exact HB.out)))); have n3_ := Aside0.mk (below_step (by repeat (first | (with_reducible first | exact HB.out | apply below_alloc | apply pw_below_drewN | apply below_drew1) | exact HB.out)) hb); clear HO_25; clear HO_27; clear HB; have HO_25 := n0_; have HO_27 := n1_; have HO141 := n2_; have HB := n3_; clear n0_ n1_ n2_ n3_; (try clear hb); (try clear hb2); (try clear hk); (try clear hi); (try clear ho0); obtain ⟨Ao87, co87, eo87⟩ := Kd.R_slice HO141.out; subst eo87; have p142 : 0 ≤ (0 : Int) := (by omega); have q142 : 0 < (t138.length : Int) := of_decide_eq_true (by first | (with_reducible assumption) | assumption); obtain ⟨ad142, e142, hx142_0⟩ := Kd.at_int (Kd.R_reads' HO141.out).2.2 0 p142 q142; cases e142; have qi142 : (0 < t138.length) = True := eq_true (by omega); (try rw [show ((0 : Int)).toNat = 0 from rfl] at hx142_0); (try rw [Addr.add_zero'] at hx142_0); replace p142 := eq_true p142; replace q142 := eq_true q142) | (go_at_call 25; (with_reducible refine (peaveylaw10_Works.calls  t143 _ A84.out).mono ?_); rintro e w88 ⟨rfl, hb⟩; have n0_ := Aside0.mk (Kd.R_below (by (with_reducible repeat (first | apply Kd.R_alloc | apply Kd.R_drewN | apply Kd.R_drew)); exact HO_25.out) hb); have n1_ := Aside0.mk (Kd.R_below (by (with_reducible repeat (first | apply Kd.R_alloc | apply Kd.R_drewN | apply Kd.R_drew)); exact HO_27.out) hb); have n2_ := Aside0.mk (Kd.R_below (by (with_reducible repeat (first | apply Kd.R_alloc | apply Kd.R_drewN | apply Kd.R_drew)); exact HO141.out) hb); have n3_ := Aside0.mk (below_step (by repeat (first | (with_reducible first | exact HB.out | apply below_alloc | apply pw_below_drewN | apply below_drew1) | exact HB.out)) hb); clear HO_25; clear HO_27; clear HO141; clear HB; have HO_25 := n0_; have HO_27 := n1_; have HO141 := n2_; have HB := n3_; clear n0_ n1_ n2_ n3_; (try clear hb); (try clear hb2); (try clear hk); (try clear hi)))
                         repeat (go_quiet (first | (go_at_call 17; (with_reducible refine (check_Choose.calls (wrap64 (t101 - 1)) (wrap64 (t103 - 1)) t136 t137 _ A77.out).mono ?_); rintro e w85 ⟨rfl, hb⟩; have n0_ := Aside0.mk (Kd.R_below (by (with_reducible repeat (first | apply Kd.R_alloc | apply Kd.R_drewN | apply Kd.R_drew)); exact HO_25.out) hb); have n1_ := Aside0.mk (Kd.R_below (by (with_reducible repeat (first | apply Kd.R_alloc | apply Kd.R_drewN | apply Kd.R_drew)); exact HO_27.out) hb); have n2_ := Aside0.mk (below_step (by repeat (first | (with_reducible first | exact HB.out | apply below_alloc | apply pw_below_drewN | apply below_drew1) | exact HB.out)) hb); clear HO_25; clear HO_27; clear HB; have HO_25 := n0_; have HO_27 := n1_; have HB := n2_; clear n0_ n1_ n2_; (try clear hb); (try clear hb2); (try clear hk); (try clear hi)) | (go_at_call 26; (with_reducible refine (check_Draw.calls t101 t103 (wrap64 (t136 - 1)) t138 t139 _ A79.out).mono ?_); rintro e w86 ⟨v140, rfl, ho0, hb⟩; have n0_ := Aside0.mk (Kd.R_elder' (by (with_reducible repeat (first | apply Kd.R_alloc | apply Kd.R_drewN | apply Kd.R_drew)); exact HO_25.out) (Kd.R_base ho0) hb); have n1_ := Aside0.mk (Kd.R_elder' (by (with_reducible repeat (first | apply Kd.R_alloc | apply Kd.R_drewN | apply Kd.R_drew)); exact HO_27.out) (Kd.R_base ho0) hb); have n2_ := Aside0.mk (Kd.R_lower (Kd.R_new' (Kd.R_new' ho0 (Kd.R_lt (by (with_reducible repeat (first | apply Kd.R_alloc | apply Kd.R_drewN | apply Kd.R_drew)); exact HO_25.out))) (Kd.R_lt (by (with_reducible repeat (first | apply Kd.R_alloc | apply Kd.R_drewN | apply Kd.R_drew)); exact HO_27.out))) (below_size (by repeat (first | (with_reducible first | exact HB.out | apply below_alloc | apply pw_below_drewN | apply below_drew1) | exact HB.out)))); have n3_ := Aside0.mk (below_step (by repeat (first | (with_reducible first | exact HB.out | apply below_alloc | apply pw_below_drewN | apply below_drew1) | exact HB.out)) hb); clear HO_25; clear HO_27; clear HB; have HO_25 := n0_; have HO_27 := n1_; have HO141 := n2_; have HB := n3_; clear n0_ n1_ n2_ n3_; (try clear hb); (try clear hb2); (try clear hk); (try clear hi); (try clear ho0); obtain ⟨Ao87, co87, eo87⟩ := Kd.R_slice HO141.out; subst eo87; have p142 : 0 ≤ (0 : Int) := (by omega); have q142 : 0 < (t138.length : Int) := of_decide_eq_true (by first | (with_reducible assumption) | assumption); obtain ⟨ad142, e142, hx142_0⟩ := Kd.at_int (Kd.R_reads' HO141.out).2.2 0 p142 q142; cases e142; have qi142 : (0 < t138.length) = True := eq_true (by omega); (try rw [show ((0 : Int)).toNat = 0 from rfl] at hx142_0); (try rw [Addr.add_zero'] at hx142_0); replace p142 := eq_true p142; replace q142 := eq_true q142) | (go_at_call 25; (with_reducible refine (peaveylaw10_Works.calls  t143 _ A84.out).mono ?_); rintro e w88 ⟨rfl, hb⟩; have n0_ := Aside0.mk (Kd.R_below (by (with_reducible repeat (first | apply Kd.R_alloc | apply Kd.R_drewN | apply Kd.R_drew)); exact HO_25.out) hb); have n1_ := Aside0.mk (Kd.R_below (by (with_reducible repeat (first | apply Kd.R_alloc | apply Kd.R_drewN | apply Kd.R_drew)); exact HO_27.out) hb); have n2_ := Aside0.mk (Kd.R_below (by (with_reducible repeat (first | apply Kd.R_alloc | apply Kd.R_drewN | apply Kd.R_drew)); exact HO141.out) hb); have n3_ := Aside0.mk (below_step (by repeat (first | (with_reducible first | exact HB.out | apply below_alloc | apply pw_below_drewN | apply below_drew1) | exact HB.out)) hb); clear HO_25; clear HO_27; clear HO141; clear HB; have HO_25 := n0_; have HO_27 := n1_; have HO141 := n2_; have HB := n3_; clear n0_ n1_ n2_ n3_; (try clear hb); (try clear hb2); (try clear hk); (try clear hi))); try go_wp2_with (first | (go_at_call 17; (with_reducible refine (check_Choose.calls (wrap64 (t101 - 1)) (wrap64 (t103 - 1)) t136 t137 _ A77.out).mono ?_); rintro e w85 ⟨rfl, hb⟩; have n0_ := Aside0.mk (Kd.R_below (by (with_reducible repeat (first | apply Kd.R_alloc | apply Kd.R_drewN | apply Kd.R_drew)); exact HO_25.out) hb); have n1_ := Aside0.mk (Kd.R_below (by (with_reducible repeat (first | apply Kd.R_alloc | apply Kd.R_drewN | apply Kd.R_drew)); exact HO_27.out) hb); have n2_ := Aside0.mk (below_step (by repeat (first | (with_reducible first | exact HB.out | apply below_alloc | apply pw_below_drewN | apply below_drew1) | exact HB.out)) hb); clear HO_25; clear HO_27; clear HB; have HO_25 := n0_; have HO_27 := n1_; have HB := n2_; clear n0_ n1_ n2_; (try clear hb); (try clear hb2); (try clear hk); (try clear hi)) | (go_at_call 26; (with_reducible refine (check_Draw.calls t101 t103 (wrap64 (t136 - 1)) t138 t139 _ A79.out).mono ?_); rintro e w86 ⟨v140, rfl, ho0, hb⟩; have n0_ := Aside0.mk (Kd.R_elder' (by (with_reducible repeat (first | apply Kd.R_alloc | apply Kd.R_drewN | apply Kd.R_drew)); exact HO_25.out) (Kd.R_base ho0) hb); have n1_ := Aside0.mk (Kd.R_elder' (by (with_reducible repeat (first | apply Kd.R_alloc | apply Kd.R_drewN | apply Kd.R_drew)); exact HO_27.out) (Kd.R_base ho0) hb); have n2_ := Aside0.mk (Kd.R_lower (Kd.R_new' (Kd.R_new' ho0 (Kd.R_lt (by (with_reducible repeat (first | apply Kd.R_alloc | apply Kd.R_drewN | apply Kd.R_drew)); exact HO_25.out))) (Kd.R_lt (by (with_reducible repeat (first | apply Kd.R_alloc | apply Kd.R_drewN | apply Kd.R_drew)); exact HO_27.out))) (below_size (by repeat (first | (with_reducible first | exact HB.out | apply below_alloc | apply pw_below_drewN | apply below_drew1) | exact HB.out)))); have n3_ := Aside0.mk (below_step (by repeat (first | (with_reducible first | exact HB.out | apply below_alloc | apply pw_below_drewN | apply below_drew1) | exact HB.out)) hb); clear HO_25; clear HO_27; clear HB; have HO_25 := n0_; have HO_27 := n1_; have HO141 := n2_; have HB := n3_; clear n0_ n1_ n2_ n3_; (try clear hb); (try clear hb2); (try clear hk); (try clear hi); (try clear ho0); obtain ⟨Ao87, co87, eo87⟩ := Kd.R_slice HO141.out; subst eo87; have p142 : 0 ≤ (0 : Int) := (by omega); have q142 : 0 < (t138.length : Int) := of_decide_eq_true (by first | (with_reducible assumption) | assumption); obtain ⟨ad142, e142, hx142_0⟩ := Kd.at_int (Kd.R_reads' HO141.out).2.2 0 p142 q142; cases e142; have qi142 : (0 < t138.length) = True := eq_true (by omega); (try rw [show ((0 : Int)).toNat = 0 from rfl] at hx142_0); (try rw [Addr.add_zero'] at hx142_0); replace p142 := eq_true p142; replace q142 := eq_true q142) | (go_at_call 25; (with_reducible refine (peaveylaw10_Works.calls  t143 _ A84.out).mono ?_); rintro e w88 ⟨rfl, hb⟩; have n0_ := Aside0.mk (Kd.R_below (by (with_reducible repeat (first | apply Kd.R_alloc | apply Kd.R_drewN | apply Kd.R_drew)); exact HO_25.out) hb); have n1_ := Aside0.mk (Kd.R_below (by (with_reducible repeat (first | apply Kd.R_alloc | apply Kd.R_drewN | apply Kd.R_drew)); exact HO_27.out) hb); have n2_ := Aside0.mk (Kd.R_below (by (with_reducible repeat (first | apply Kd.R_alloc | apply Kd.R_drewN | apply Kd.R_drew)); exact HO141.out) hb); have n3_ := Aside0.mk (below_step (by repeat (first | (with_reducible first | exact HB.out | apply below_alloc | apply pw_below_drewN | apply below_drew1) | exact HB.out)) hb); clear HO_25; clear HO_27; clear HO141; clear HB; have HO_25 := n0_; have HO_27 := n1_; have HO141 := n2_; have HB := n3_; clear n0_ n1_ n2_ n3_; (try clear hb); (try clear hb2); (try clear hk); (try clear hi))))
                         go_ret
                         exact ⟨by first | rfl | (simp [errW_none, errW_some] <;> rfl) | (simp [*, errW_none, errW_some] <;> rfl), by repeat (first | (with_reducible first | exact HB.out | apply below_alloc | apply pw_below_drewN | apply below_drew1) | exact HB.out)⟩
                       · as_aux_lemma =>
                        rw [if_neg c83] at H
                        have c83b0 : ((rd t138 0) == 0) = false := beq_eq_false_iff_ne.mpr c83
                        have c83b1 : ((rd t138 0) != 0) = true := bne_iff_ne.mpr c83
                        as_aux_lemma =>
                         obtain rfl := Option.some.inj H
                         go_wp2_with (first | (go_at_call 17; (with_reducible refine (check_Choose.calls (wrap64 (t101 - 1)) (wrap64 (t103 - 1)) t136 t137 _ A77.out).mono ?_); rintro e w89 ⟨rfl, hb⟩; have n0_ := Aside0.mk (Kd.R_below (by (with_reducible repeat (first | apply Kd.R_alloc | apply Kd.R_drewN | apply Kd.R_drew)); exact HO_25.out) hb); have n1_ := Aside0.mk (Kd.R_below (by (with_reducible repeat (first | apply Kd.R_alloc | apply Kd.R_drewN | apply Kd.R_drew)); exact HO_27.out) hb); have n2_ := Aside0.mk (below_step (by repeat (first | (with_reducible first | exact HB.out | apply below_alloc | apply pw_below_drewN | apply below_drew1) | exact HB.out)) hb); clear HO_25; clear HO_27; clear HB; have HO_25 := n0_; have HO_27 := n1_; have HB := n2_; clear n0_ n1_ n2_; (try clear hb); (try clear hb2); (try clear hk); (try clear hi)) | (go_at_call 26; (with_reducible refine (check_Draw.calls t101 t103 (wrap64 (t136 - 1)) t138 t139 _ A79.out).mono ?_); rintro e w90 ⟨v140, rfl, ho0, hb⟩; have n0_ := Aside0.mk (Kd.R_elder' (by (with_reducible repeat (first | apply Kd.R_alloc | apply Kd.R_drewN | apply Kd.R_drew)); exact HO_25.out) (Kd.R_base ho0) hb); have n1_ := Aside0.mk (Kd.R_elder' (by (with_reducible repeat (first | apply Kd.R_alloc | apply Kd.R_drewN | apply Kd.R_drew)); exact HO_27.out) (Kd.R_base ho0) hb); have n2_ := Aside0.mk (Kd.R_lower (Kd.R_new' (Kd.R_new' ho0 (Kd.R_lt (by (with_reducible repeat (first | apply Kd.R_alloc | apply Kd.R_drewN | apply Kd.R_drew)); exact HO_25.out))) (Kd.R_lt (by (with_reducible repeat (first | apply Kd.R_alloc | apply Kd.R_drewN | apply Kd.R_drew)); exact HO_27.out))) (below_size (by repeat (first | (with_reducible first | exact HB.out | apply below_alloc | apply pw_below_drewN | apply below_drew1) | exact HB.out)))); have n3_ := Aside0.mk (below_step (by repeat (first | (with_reducible first | exact HB.out | apply below_alloc | apply pw_below_drewN | apply below_drew1) | exact HB.out)) hb); clear HO_25; clear HO_27; clear HB; have HO_25 := n0_; have HO_27 := n1_; have HO141 := n2_; have HB := n3_; clear n0_ n1_ n2_ n3_; (try clear hb); (try clear hb2); (try clear hk); (try clear hi); (try clear ho0); obtain ⟨Ao91, co91, eo91⟩ := Kd.R_slice HO141.out; subst eo91; have p142 : 0 ≤ (0 : Int) := (by omega); have q142 : 0 < (t138.length : Int) := of_decide_eq_true (by first | (with_reducible assumption) | assumption); obtain ⟨ad142, e142, hx142_0⟩ := Kd.at_int (Kd.R_reads' HO141.out).2.2 0 p142 q142; cases e142; have qi142 : (0 < t138.length) = True := eq_true (by omega); (try rw [show ((0 : Int)).toNat = 0 from rfl] at hx142_0); (try rw [Addr.add_zero'] at hx142_0); replace p142 := eq_true p142; replace q142 := eq_true q142))
                         repeat (go_quiet (first | (go_at_call 17; (with_reducible refine (check_Choose.calls (wrap64 (t101 - 1)) (wrap64 (t103 - 1)) t136 t137 _ A77.out).mono ?_); rintro e w89 ⟨rfl, hb⟩; have n0_ := Aside0.mk (Kd.R_below (by (with_reducible repeat (first | apply Kd.R_alloc | apply Kd.R_drewN | apply Kd.R_drew)); exact HO_25.out) hb); have n1_ := Aside0.mk (Kd.R_below (by (with_reducible repeat (first | apply Kd.R_alloc | apply Kd.R_drewN | apply Kd.R_drew)); exact HO_27.out) hb); have n2_ := Aside0.mk (below_step (by repeat (first | (with_reducible first | exact HB.out | apply below_alloc | apply pw_below_drewN | apply below_drew1) | exact HB.out)) hb); clear HO_25; clear HO_27; clear HB; have HO_25 := n0_; have HO_27 := n1_; have HB := n2_; clear n0_ n1_ n2_; (try clear hb); (try clear hb2); (try clear hk); (try clear hi)) | (go_at_call 26; (with_reducible refine (check_Draw.calls t101 t103 (wrap64 (t136 - 1)) t138 t139 _ A79.out).mono ?_); rintro e w90 ⟨v140, rfl, ho0, hb⟩; have n0_ := Aside0.mk (Kd.R_elder' (by (with_reducible repeat (first | apply Kd.R_alloc | apply Kd.R_drewN | apply Kd.R_drew)); exact HO_25.out) (Kd.R_base ho0) hb); have n1_ := Aside0.mk (Kd.R_elder' (by (with_reducible repeat (first | apply Kd.R_alloc | apply Kd.R_drewN | apply Kd.R_drew)); exact HO_27.out) (Kd.R_base ho0) hb); have n2_ := Aside0.mk (Kd.R_lower (Kd.R_new' (Kd.R_new' ho0 (Kd.R_lt (by (with_reducible repeat (first | apply Kd.R_alloc | apply Kd.R_drewN | apply Kd.R_drew)); exact HO_25.out))) (Kd.R_lt (by (with_reducible repeat (first | apply Kd.R_alloc | apply Kd.R_drewN | apply Kd.R_drew)); exact HO_27.out))) (below_size (by repeat (first | (with_reducible first | exact HB.out | apply below_alloc | apply pw_below_drewN | apply below_drew1) | exact HB.out)))); have n3_ := Aside0.mk (below_step (by repeat (first | (with_reducible first | exact HB.out | apply below_alloc | apply pw_below_drewN | apply below_drew1) | exact HB.out)) hb); clear HO_25; clear HO_27; clear HB; have HO_25 := n0_; have HO_27 := n1_; have HO141 := n2_; have HB := n3_; clear n0_ n1_ n2_ n3_; (try clear hb); (try clear hb2); (try clear hk); (try clear hi); (try clear ho0); obtain ⟨Ao91, co91, eo91⟩ := Kd.R_slice HO141.out; subst eo91; have p142 : 0 ≤ (0 : Int) := (by omega); have q142 : 0 < (t138.length : Int) := of_decide_eq_true (by first | (with_reducible assumption) | assumption); obtain ⟨ad142, e142, hx142_0⟩ := Kd.at_int (Kd.R_reads' HO141.out).2.2 0 p142 q142; cases e142; have qi142 : (0 < t138.length) = True := eq_true (by omega); (try rw [show ((0 : Int)).toNat = 0 from rfl] at hx142_0); (try rw [Addr.add_zero'] at hx142_0); replace p142 := eq_true p142; replace q142 := eq_true q142)); try go_wp2_with (first | (go_at_call 17; (with_reducible refine (check_Choose.calls (wrap64 (t101 - 1)) (wrap64 (t103 - 1)) t136 t137 _ A77.out).mono ?_); rintro e w89 ⟨rfl, hb⟩; have n0_ := Aside0.mk (Kd.R_below (by (with_reducible repeat (first | apply Kd.R_alloc | apply Kd.R_drewN | apply Kd.R_drew)); exact HO_25.out) hb); have n1_ := Aside0.mk (Kd.R_below (by (with_reducible repeat (first | apply Kd.R_alloc | apply Kd.R_drewN | apply Kd.R_drew)); exact HO_27.out) hb); have n2_ := Aside0.mk (below_step (by repeat (first | (with_reducible first | exact HB.out | apply below_alloc | apply pw_below_drewN | apply below_drew1) | exact HB.out)) hb); clear HO_25; clear HO_27; clear HB; have HO_25 := n0_; have HO_27 := n1_; have HB := n2_; clear n0_ n1_ n2_; (try clear hb); (try clear hb2); (try clear hk); (try clear hi)) | (go_at_call 26; (with_reducible refine (check_Draw.calls t101 t103 (wrap64 (t136 - 1)) t138 t139 _ A79.out).mono ?_); rintro e w90 ⟨v140, rfl, ho0, hb⟩; have n0_ := Aside0.mk (Kd.R_elder' (by (with_reducible repeat (first | apply Kd.R_alloc | apply Kd.R_drewN | apply Kd.R_drew)); exact HO_25.out) (Kd.R_base ho0) hb); have n1_ := Aside0.mk (Kd.R_elder' (by (with_reducible repeat (first | apply Kd.R_alloc | apply Kd.R_drewN | apply Kd.R_drew)); exact HO_27.out) (Kd.R_base ho0) hb); have n2_ := Aside0.mk (Kd.R_lower (Kd.R_new' (Kd.R_new' ho0 (Kd.R_lt (by (with_reducible repeat (first | apply Kd.R_alloc | apply Kd.R_drewN | apply Kd.R_drew)); exact HO_25.out))) (Kd.R_lt (by (with_reducible repeat (first | apply Kd.R_alloc | apply Kd.R_drewN | apply Kd.R_drew)); exact HO_27.out))) (below_size (by repeat (first | (with_reducible first | exact HB.out | apply below_alloc | apply pw_below_drewN | apply below_drew1) | exact HB.out)))); have n3_ := Aside0.mk (below_step (by repeat (first | (with_reducible first | exact HB.out | apply below_alloc | apply pw_below_drewN | apply below_drew1) | exact HB.out)) hb); clear HO_25; clear HO_27; clear HB; have HO_25 := n0_; have HO_27 := n1_; have HO141 := n2_; have HB := n3_; clear n0_ n1_ n2_ n3_; (try clear hb); (try clear hb2); (try clear hk); (try clear hi); (try clear ho0); obtain ⟨Ao91, co91, eo91⟩ := Kd.R_slice HO141.out; subst eo91; have p142 : 0 ≤ (0 : Int) := (by omega); have q142 : 0 < (t138.length : Int) := of_decide_eq_true (by first | (with_reducible assumption) | assumption); obtain ⟨ad142, e142, hx142_0⟩ := Kd.at_int (Kd.R_reads' HO141.out).2.2 0 p142 q142; cases e142; have qi142 : (0 < t138.length) = True := eq_true (by omega); (try rw [show ((0 : Int)).toNat = 0 from rfl] at hx142_0); (try rw [Addr.add_zero'] at hx142_0); replace p142 := eq_true p142; replace q142 := eq_true q142)))
                         go_ret
                         exact ⟨by first | rfl | (simp [errW_none, errW_some] <;> rfl) | (simp [*, errW_none, errW_some] <;> rfl), by repeat (first | (with_reducible first | exact HB.out | apply below_alloc | apply pw_below_drewN | apply below_drew1) | exact HB.out)⟩
                      · as_aux_lemma =>
                       rw [if_neg c82] at H
                       exact absurd H (by simp)
                     · as_aux_lemma =>
                      rw [if_neg c81] at H
                      have c81b0 : ((t138.length : Int) == t103) = false := beq_eq_false_iff_ne.mpr c81
                      have c81b1 : ((t138.length : Int) != t103) = true := bne_iff_ne.mpr c81
                      as_aux_lemma =>
                       obtain rfl := Option.some.inj H
                       go_wp2_with (first | (go_at_call 17; (with_reducible refine (check_Choose.calls (wrap64 (t101 - 1)) (wrap64 (t103 - 1)) t136 t137 _ A77.out).mono ?_); rintro e w92 ⟨rfl, hb⟩; have n0_ := Aside0.mk (Kd.R_below (by (with_reducible repeat (first | apply Kd.R_alloc | apply Kd.R_drewN | apply Kd.R_drew)); exact HO_25.out) hb); have n1_ := Aside0.mk (Kd.R_below (by (with_reducible repeat (first | apply Kd.R_alloc | apply Kd.R_drewN | apply Kd.R_drew)); exact HO_27.out) hb); have n2_ := Aside0.mk (below_step (by repeat (first | (with_reducible first | exact HB.out | apply below_alloc | apply pw_below_drewN | apply below_drew1) | exact HB.out)) hb); clear HO_25; clear HO_27; clear HB; have HO_25 := n0_; have HO_27 := n1_; have HB := n2_; clear n0_ n1_ n2_; (try clear hb); (try clear hb2); (try clear hk); (try clear hi)) | (go_at_call 26; (with_reducible refine (check_Draw.calls t101 t103 (wrap64 (t136 - 1)) t138 t139 _ A79.out).mono ?_); rintro e w93 ⟨v140, rfl, ho0, hb⟩; have n0_ := Aside0.mk (Kd.R_elder' (by (with_reducible repeat (first | apply Kd.R_alloc | apply Kd.R_drewN | apply Kd.R_drew)); exact HO_25.out) (Kd.R_base ho0) hb); have n1_ := Aside0.mk (Kd.R_elder' (by (with_reducible repeat (first | apply Kd.R_alloc | apply Kd.R_drewN | apply Kd.R_drew)); exact HO_27.out) (Kd.R_base ho0) hb); have n2_ := Aside0.mk (Kd.R_lower (Kd.R_new' (Kd.R_new' ho0 (Kd.R_lt (by (with_reducible repeat (first | apply Kd.R_alloc | apply Kd.R_drewN | apply Kd.R_drew)); exact HO_25.out))) (Kd.R_lt (by (with_reducible repeat (first | apply Kd.R_alloc | apply Kd.R_drewN | apply Kd.R_drew)); exact HO_27.out))) (below_size (by repeat (first | (with_reducible first | exact HB.out | apply below_alloc | apply pw_below_drewN | apply below_drew1) | exact HB.out)))); have n3_ := Aside0.mk (below_step (by repeat (first | (with_reducible first | exact HB.out | apply below_alloc | apply pw_below_drewN | apply below_drew1) | exact HB.out)) hb); clear HO_25; clear HO_27; clear HB; have HO_25 := n0_; have HO_27 := n1_; have HO141 := n2_; have HB := n3_; clear n0_ n1_ n2_ n3_; (try clear hb); (try clear hb2); (try clear hk); (try clear hi); (try clear ho0); obtain ⟨Ao94, co94, eo94⟩ := Kd.R_slice HO141.out; subst eo94))
                       repeat (go_quiet (first | (go_at_call 17; (with_reducible refine (check_Choose.calls (wrap64 (t101 - 1)) (wrap64 (t103 - 1)) t136 t137 _ A77.out).mono ?_); rintro e w92 ⟨rfl, hb⟩; have n0_ := Aside0.mk (Kd.R_below (by (with_reducible repeat (first | apply Kd.R_alloc | apply Kd.R_drewN | apply Kd.R_drew)); exact HO_25.out) hb); have n1_ := Aside0.mk (Kd.R_below (by (with_reducible repeat (first | apply Kd.R_alloc | apply Kd.R_drewN | apply Kd.R_drew)); exact HO_27.out) hb); have n2_ := Aside0.mk (below_step (by repeat (first | (with_reducible first | exact HB.out | apply below_alloc | apply pw_below_drewN | apply below_drew1) | exact HB.out)) hb); clear HO_25; clear HO_27; clear HB; have HO_25 := n0_; have HO_27 := n1_; have HB := n2_; clear n0_ n1_ n2_; (try clear hb); (try clear hb2); (try clear hk); (try clear hi)) | (go_at_call 26; (with_reducible refine (check_Draw.calls t101 t103 (wrap64 (t136 - 1)) t138 t139 _ A79.out).mono ?_); rintro e w93 ⟨v140, rfl, ho0, hb⟩; have n0_ := Aside0.mk (Kd.R_elder' (by (with_reducible repeat (first | apply Kd.R_alloc | apply Kd.R_drewN | apply Kd.R_drew)); exact HO_25.out) (Kd.R_base ho0) hb); have n1_ := Aside0.mk (Kd.R_elder' (by (with_reducible repeat (first | apply Kd.R_alloc | apply Kd.R_drewN | apply Kd.R_drew)); exact HO_27.out) (Kd.R_base ho0) hb); have n2_ := Aside0.mk (Kd.R_lower (Kd.R_new' (Kd.R_new' ho0 (Kd.R_lt (by (with_reducible repeat (first | apply Kd.R_alloc | apply Kd.R_drewN | apply Kd.R_drew)); exact HO_25.out))) (Kd.R_lt (by (with_reducible repeat (first | apply Kd.R_alloc | apply Kd.R_drewN | apply Kd.R_drew)); exact HO_27.out))) (below_size (by repeat (first | (with_reducible first | exact HB.out | apply below_alloc | apply pw_below_drewN | apply below_drew1) | exact HB.out)))); have n3_ := Aside0.mk (below_step (by repeat (first | (with_reducible first | exact HB.out | apply below_alloc | apply pw_below_drewN | apply below_drew1) | exact HB.out)) hb); clear HO_25; clear HO_27; clear HB; have HO_25 := n0_; have HO_27 := n1_; have HO141 := n2_; have HB := n3_; clear n0_ n1_ n2_ n3_; (try clear hb); (try clear hb2); (try clear hk); (try clear hi); (try clear ho0); obtain ⟨Ao94, co94, eo94⟩ := Kd.R_slice HO141.out; subst eo94)); try go_wp2_with (first | (go_at_call 17; (with_reducible refine (check_Choose.calls (wrap64 (t101 - 1)) (wrap64 (t103 - 1)) t136 t137 _ A77.out).mono ?_); rintro e w92 ⟨rfl, hb⟩; have n0_ := Aside0.mk (Kd.R_below (by (with_reducible repeat (first | apply Kd.R_alloc | apply Kd.R_drewN | apply Kd.R_drew)); exact HO_25.out) hb); have n1_ := Aside0.mk (Kd.R_below (by (with_reducible repeat (first | apply Kd.R_alloc | apply Kd.R_drewN | apply Kd.R_drew)); exact HO_27.out) hb); have n2_ := Aside0.mk (below_step (by repeat (first | (with_reducible first | exact HB.out | apply below_alloc | apply pw_below_drewN | apply below_drew1) | exact HB.out)) hb); clear HO_25; clear HO_27; clear HB; have HO_25 := n0_; have HO_27 := n1_; have HB := n2_; clear n0_ n1_ n2_; (try clear hb); (try clear hb2); (try clear hk); (try clear hi)) | (go_at_call 26; (with_reducible refine (check_Draw.calls t101 t103 (wrap64 (t136 - 1)) t138 t139 _ A79.out).mono ?_); rintro e w93 ⟨v140, rfl, ho0, hb⟩; have n0_ := Aside0.mk (Kd.R_elder' (by (with_reducible repeat (first | apply Kd.R_alloc | apply Kd.R_drewN | apply Kd.R_drew)); exact HO_25.out) (Kd.R_base ho0) hb); have n1_ := Aside0.mk (Kd.R_elder' (by (with_reducible repeat (first | apply Kd.R_alloc | apply Kd.R_drewN | apply Kd.R_drew)); exact HO_27.out) (Kd.R_base ho0) hb); have n2_ := Aside0.mk (Kd.R_lower (Kd.R_new' (Kd.R_new' ho0 (Kd.R_lt (by (with_reducible repeat (first | apply Kd.R_alloc | apply Kd.R_drewN | apply Kd.R_drew)); exact HO_25.out))) (Kd.R_lt (by (with_reducible repeat (first | apply Kd.R_alloc | apply Kd.R_drewN | apply Kd.R_drew)); exact HO_27.out))) (below_size (by repeat (first | (with_reducible first | exact HB.out | apply below_alloc | apply pw_below_drewN | apply below_drew1) | exact HB.out)))); have n3_ := Aside0.mk (below_step (by repeat (first | (with_reducible first | exact HB.out | apply below_alloc | apply pw_below_drewN | apply below_drew1) | exact HB.out)) hb); clear HO_25; clear HO_27; clear HB; have HO_25 := n0_; have HO_27 := n1_; have HO141 := n2_; have HB := n3_; clear n0_ n1_ n2_ n3_; (try clear hb); (try clear hb2); (try clear hk); (try clear hi); (try clear ho0); obtain ⟨Ao94, co94, eo94⟩ := Kd.R_slice HO141.out; subst eo94)))
                       go_ret
                       exact ⟨by first | rfl | (simp [errW_none, errW_some] <;> rfl) | (simp [*, errW_none, errW_some] <;> rfl), by repeat (first | (with_reducible first | exact HB.out | apply below_alloc | apply pw_below_drewN | apply below_drew1) | exact HB.out)⟩
                    · as_aux_lemma =>
                     rw [if_neg c80] at H
                     have c80b0 : (t139 == 0) = false := beq_eq_false_iff_ne.mpr c80
                     have c80b1 : (t139 != 0) = true := bne_iff_ne.mpr c80
                     as_aux_lemma =>
                      obtain rfl := Option.some.inj H
                      go_wp2_with (first | (go_at_call 17; (with_reducible refine (check_Choose.calls (wrap64 (t101 - 1)) (wrap64 (t103 - 1)) t136 t137 _ A77.out).mono ?_); rintro e w95 ⟨rfl, hb⟩; have n0_ := Aside0.mk (Kd.R_below (by (with_reducible repeat (first | apply Kd.R_alloc | apply Kd.R_drewN | apply Kd.R_drew)); exact HO_25.out) hb); have n1_ := Aside0.mk (Kd.R_below (by (with_reducible repeat (first | apply Kd.R_alloc | apply Kd.R_drewN | apply Kd.R_drew)); exact HO_27.out) hb); have n2_ := Aside0.mk (below_step (by repeat (first | (with_reducible first | exact HB.out | apply below_alloc | apply pw_below_drewN | apply below_drew1) | exact HB.out)) hb); clear HO_25; clear HO_27; clear HB; have HO_25 := n0_; have HO_27 := n1_; have HB := n2_; clear n0_ n1_ n2_; (try clear hb); (try clear hb2); (try clear hk); (try clear hi)) | (go_at_call 26; (with_reducible refine (check_Draw.calls t101 t103 (wrap64 (t136 - 1)) t138 t139 _ A79.out).mono ?_); rintro e w96 ⟨v140, rfl, ho0, hb⟩; have n0_ := Aside0.mk (Kd.R_elder' (by (with_reducible repeat (first | apply Kd.R_alloc | apply Kd.R_drewN | apply Kd.R_drew)); exact HO_25.out) (Kd.R_base ho0) hb); have n1_ := Aside0.mk (Kd.R_elder' (by (with_reducible repeat (first | apply Kd.R_alloc | apply Kd.R_drewN | apply Kd.R_drew)); exact HO_27.out) (Kd.R_base ho0) hb); have n2_ := Aside0.mk (Kd.R_lower (Kd.R_new' (Kd.R_new' ho0 (Kd.R_lt (by (with_reducible repeat (first | apply Kd.R_alloc | apply Kd.R_drewN | apply Kd.R_drew)); exact HO_25.out))) (Kd.R_lt (by (with_reducible repeat (first | apply Kd.R_alloc | apply Kd.R_drewN | apply Kd.R_drew)); exact HO_27.out))) (below_size (by repeat (first | (with_reducible first | exact HB.out | apply below_alloc | apply pw_below_drewN | apply below_drew1) | exact HB.out)))); have n3_ := Aside0.mk (below_step (by repeat (first | (with_reducible first | exact HB.out | apply below_alloc | apply pw_below_drewN | apply below_drew1) | exact HB.out)) hb); clear HO_25; clear HO_27; clear HB; have HO_25 := n0_; have HO_27 := n1_; have HO141 := n2_; have HB := n3_; clear n0_ n1_ n2_ n3_; (try clear hb); (try clear hb2); (try clear hk); (try clear hi); (try clear ho0)))
                      repeat (go_quiet (first | (go_at_call 17; (with_reducible refine (check_Choose.calls (wrap64 (t101 - 1)) (wrap64 (t103 - 1)) t136 t137 _ A77.out).mono ?_); rintro e w95 ⟨rfl, hb⟩; have n0_ := Aside0.mk (Kd.R_below (by (with_reducible repeat (first | apply Kd.R_alloc | apply Kd.R_drewN | apply Kd.R_drew)); exact HO_25.out) hb); have n1_ := Aside0.mk (Kd.R_below (by (with_reducible repeat (first | apply Kd.R_alloc | apply Kd.R_drewN | apply Kd.R_drew)); exact HO_27.out) hb); have n2_ := Aside0.mk (below_step (by repeat (first | (with_reducible first | exact HB.out | apply below_alloc | apply pw_below_drewN | apply below_drew1) | exact HB.out)) hb); clear HO_25; clear HO_27; clear HB; have HO_25 := n0_; have HO_27 := n1_; have HB := n2_; clear n0_ n1_ n2_; (try clear hb); (try clear hb2); (try clear hk); (try clear hi)) | (go_at_call 26; (with_reducible refine (check_Draw.calls t101 t103 (wrap64 (t136 - 1)) t138 t139 _ A79.out).mono ?_); rintro e w96 ⟨v140, rfl, ho0, hb⟩; have n0_ := Aside0.mk (Kd.R_elder' (by (with_reducible repeat (first | apply Kd.R_alloc | apply Kd.R_drewN | apply Kd.R_drew)); exact HO_25.out) (Kd.R_base ho0) hb); have n1_ := Aside0.mk (Kd.R_elder' (by (with_reducible repeat (first | apply Kd.R_alloc | apply Kd.R_drewN | apply Kd.R_drew)); exact HO_27.out) (Kd.R_base ho0) hb); have n2_ := Aside0.mk (Kd.R_lower (Kd.R_new' (Kd.R_new' ho0 (Kd.R_lt (by (with_reducible repeat (first | apply Kd.R_alloc | apply Kd.R_drewN | apply Kd.R_drew)); exact HO_25.out))) (Kd.R_lt (by (with_reducible repeat (first | apply Kd.R_alloc | apply Kd.R_drewN | apply Kd.R_drew)); exact HO_27.out))) (below_size (by repeat (first | (with_reducible first | exact HB.out | apply below_alloc | apply pw_below_drewN | apply below_drew1) | exact HB.out)))); have n3_ := Aside0.mk (below_step (by repeat (first | (with_reducible first | exact HB.out | apply below_alloc | apply pw_below_drewN | apply below_drew1) | exact HB.out)) hb); clear HO_25; clear HO_27; clear HB; have HO_25 := n0_; have HO_27 := n1_; have HO141 := n2_; have HB := n3_; clear n0_ n1_ n2_ n3_; (try clear hb); (try clear hb2); (try clear hk); (try clear hi); (try clear ho0))); try go_wp2_with (first | (go_at_call 17; (with_reducible refine (check_Choose.calls (wrap64 (t101 - 1)) (wrap64 (t103 - 1)) t136 t137 _ A77.out).mono ?_); rintro e w95 ⟨rfl, hb⟩; have n0_ := Aside0.mk (Kd.R_below (by (with_reducible repeat (first | apply Kd.R_alloc | apply Kd.R_drewN | apply Kd.R_drew)); exact HO_25.out) hb); have n1_ := Aside0.mk (Kd.R_below (by (with_reducible repeat (first | apply Kd.R_alloc | apply Kd.R_drewN | apply Kd.R_drew)); exact HO_27.out) hb); have n2_ := Aside0.mk (below_step (by repeat (first | (with_reducible first | exact HB.out | apply below_alloc | apply pw_below_drewN | apply below_drew1) | exact HB.out)) hb); clear HO_25; clear HO_27; clear HB; have HO_25 := n0_; have HO_27 := n1_; have HB := n2_; clear n0_ n1_ n2_; (try clear hb); (try clear hb2); (try clear hk); (try clear hi)) | (go_at_call 26; (with_reducible refine (check_Draw.calls t101 t103 (wrap64 (t136 - 1)) t138 t139 _ A79.out).mono ?_); rintro e w96 ⟨v140, rfl, ho0, hb⟩; have n0_ := Aside0.mk (Kd.R_elder' (by (with_reducible repeat (first | apply Kd.R_alloc | apply Kd.R_drewN | apply Kd.R_drew)); exact HO_25.out) (Kd.R_base ho0) hb); have n1_ := Aside0.mk (Kd.R_elder' (by (with_reducible repeat (first | apply Kd.R_alloc | apply Kd.R_drewN | apply Kd.R_drew)); exact HO_27.out) (Kd.R_base ho0) hb); have n2_ := Aside0.mk (Kd.R_lower (Kd.R_new' (Kd.R_new' ho0 (Kd.R_lt (by (with_reducible repeat (first | apply Kd.R_alloc | apply Kd.R_drewN | apply Kd.R_drew)); exact HO_25.out))) (Kd.R_lt (by (with_reducible repeat (first | apply Kd.R_alloc | apply Kd.R_drewN | apply Kd.R_drew)); exact HO_27.out))) (below_size (by repeat (first | (with_reducible first | exact HB.out | apply below_alloc | apply pw_below_drewN | apply below_drew1) | exact HB.out)))); have n3_ := Aside0.mk (below_step (by repeat (first | (with_reducible first | exact HB.out | apply below_alloc | apply pw_below_drewN | apply below_drew1) | exact HB.out)) hb); clear HO_25; clear HO_27; clear HB; have HO_25 := n0_; have HO_27 := n1_; have HO141 := n2_; have HB := n3_; clear n0_ n1_ n2_ n3_; (try clear hb); (try clear hb2); (try clear hk); (try clear hi); (try clear ho0))))
                      go_ret
                      exact ⟨by first | rfl | (simp [errW_none, errW_some] <;> rfl) | (simp [*, errW_none, errW_some] <;> rfl), by repeat (first | (with_reducible first | exact HB.out | apply below_alloc | apply pw_below_drewN | apply below_drew1) | exact HB.out)⟩
                   · as_aux_lemma =>
                    rw [if_neg c78] at H
                    have c78b0 : (t137 == 0) = false := beq_eq_false_iff_ne.mpr c78
                    have c78b1 : (t137 != 0) = true := bne_iff_ne.mpr c78
                    as_aux_lemma =>
                     obtain rfl := Option.some.inj H
                     go_wp2_with (first | (go_at_call 17; (with_reducible refine (check_Choose.calls (wrap64 (t101 - 1)) (wrap64 (t103 - 1)) t136 t137 _ A77.out).mono ?_); rintro e w97 ⟨rfl, hb⟩; have n0_ := Aside0.mk (Kd.R_below (by (with_reducible repeat (first | apply Kd.R_alloc | apply Kd.R_drewN | apply Kd.R_drew)); exact HO_25.out) hb); have n1_ := Aside0.mk (Kd.R_below (by (with_reducible repeat (first | apply Kd.R_alloc | apply Kd.R_drewN | apply Kd.R_drew)); exact HO_27.out) hb); have n2_ := Aside0.mk (below_step (by repeat (first | (with_reducible first | exact HB.out | apply below_alloc | apply pw_below_drewN | apply below_drew1) | exact HB.out)) hb); clear HO_25; clear HO_27; clear HB; have HO_25 := n0_; have HO_27 := n1_; have HB := n2_; clear n0_ n1_ n2_; (try clear hb); (try clear hb2); (try clear hk); (try clear hi)))
                     repeat (go_quiet (first | (go_at_call 17; (with_reducible refine (check_Choose.calls (wrap64 (t101 - 1)) (wrap64 (t103 - 1)) t136 t137 _ A77.out).mono ?_); rintro e w97 ⟨rfl, hb⟩; have n0_ := Aside0.mk (Kd.R_below (by (with_reducible repeat (first | apply Kd.R_alloc | apply Kd.R_drewN | apply Kd.R_drew)); exact HO_25.out) hb); have n1_ := Aside0.mk (Kd.R_below (by (with_reducible repeat (first | apply Kd.R_alloc | apply Kd.R_drewN | apply Kd.R_drew)); exact HO_27.out) hb); have n2_ := Aside0.mk (below_step (by repeat (first | (with_reducible first | exact HB.out | apply below_alloc | apply pw_below_drewN | apply below_drew1) | exact HB.out)) hb); clear HO_25; clear HO_27; clear HB; have HO_25 := n0_; have HO_27 := n1_; have HB := n2_; clear n0_ n1_ n2_; (try clear hb); (try clear hb2); (try clear hk); (try clear hi))); try go_wp2_with (first | (go_at_call 17; (with_reducible refine (check_Choose.calls (wrap64 (t101 - 1)) (wrap64 (t103 - 1)) t136 t137 _ A77.out).mono ?_); rintro e w97 ⟨rfl, hb⟩; have n0_ := Aside0.mk (Kd.R_below (by (with_reducible repeat (first | apply Kd.R_alloc | apply Kd.R_drewN | apply Kd.R_drew)); exact HO_25.out) hb); have n1_ := Aside0.mk (Kd.R_below (by (with_reducible repeat (first | apply Kd.R_alloc | apply Kd.R_drewN | apply Kd.R_drew)); exact HO_27.out) hb); have n2_ := Aside0.mk (below_step (by repeat (first | (with_reducible first | exact HB.out | apply below_alloc | apply pw_below_drewN | apply below_drew1) | exact HB.out)) hb); clear HO_25; clear HO_27; clear HB; have HO_25 := n0_; have HO_27 := n1_; have HB := n2_; clear n0_ n1_ n2_; (try clear hb); (try clear hb2); (try clear hk); (try clear hi))))
                     go_ret
                     exact ⟨by first | rfl | (simp [errW_none, errW_some] <;> rfl) | (simp [*, errW_none, errW_some] <;> rfl), by repeat (first | (with_reducible first | exact HB.out | apply below_alloc | apply pw_below_drewN | apply below_drew1) | exact HB.out)⟩

/-- THE ONE PURE STATEMENT of peaveylaw10_CheckDrawn: yours. -/
def peaveylaw10_CheckDrawn.Pure : Prop := ∀ (a0 : Int) (a1 : Int) (a2 : Int) (a3 : Int) (a4 : Int), (Lit.int .u8 a0).wf = true → (Lit.int .u8 a1).wf = true → (Lit.int .u64 a2).wf = true → (Lit.int .u64 a3).wf = true → (Lit.int .u64 a4).wf = true → ∃ k, peaveylaw10_CheckDrawn.f k a0 a1 a2 a3 a4 = some true
theorem peaveylaw10_CheckDrawn.walk (P : peaveylaw10_CheckDrawn.Pure) (a0 : Int) (a1 : Int) (a2 : Int) (a3 : Int) (a4 : Int) (w : World) (w0 : (Lit.int .u8 a0).wf = true) (w1 : (Lit.int .u8 a1).wf = true) (w2 : (Lit.int .u64 a2).wf = true) (w3 : (Lit.int .u64 a3).wf = true) (w4 : (Lit.int .u64 a4).wf = true) :
    Calls Try.prog 11 #[.int .u8 a0, .int .u8 a1, .int .u64 a2, .int .u64 a3, .int .u64 a4] w fun e w' => e = .returned (.bool true) ∧ Below w.heap.size w w' := by
  obtain ⟨k, h⟩ := P a0 a1 a2 a3 a4 w0 w1 w2 w3 w4
  refine (peaveylaw10_CheckDrawn.calls k a0 a1 a2 a3 a4 true w h).mono ?_
  rintro e w' ⟨rfl, hd⟩
  exact ⟨rfl, hd⟩

end Go.Proofs.Ytmgdidhhgdpobaa.Pdrawn

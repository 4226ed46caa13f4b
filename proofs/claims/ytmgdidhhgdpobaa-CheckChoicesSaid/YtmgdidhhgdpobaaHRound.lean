/- A region that draws its order, in a round of a loop over a function, at the wide fence: the plain walk in the order of the text serves. -/
import Derived.Test.YtmgdidhhgdpobaaHHeld
import Derived.OrdersIn
import Derived.Deep.RegionHeld3
import Derived.RangeFuncCalls
import Derived.RangeFuncNested
namespace Go.Proofs.Ytmgdidhhgdpobaa.Hand
open Go.RowKit

section
variable {P : Program} {ops : Array Oper} {C : World → Prop} {n : Nat}

theorem quiet_round {o : Oper} {a : Act} {K : Act → Prop} {K' : Act → World → Prop} {Q' : Exit → Act → World → Prop} {w : World} (r : Nat) (hd : ∀ c, o.op ≠ .defer c) (hw : C w) (h : ∀ a w', C w' → K a → K' a w')
    (hh : o.quiet P a C K) : o.wpIn (Fence.wide.inRound r) n P a w K' Q' := by
  obtain ⟨v, h1, h2⟩ := hh
  have h3 := h1 w hw
  unfold Oper.quietAt at h3
  unfold Oper.wpIn
  refine ⟨fun _ _ => trivial, ?_⟩
  rw [Oper.semAt_eq _ _ _ hd]
  generalize (execOp a.eval o).run P w = q at *
  cases q with
  | halt x w' => exact h3.elim
  | ok x w' =>
    cases x with
    | value u =>
      obtain ⟨rfl, rfl⟩ := h3
      exact h _ _ hw h2
    | skip =>
      obtain ⟨rfl, rfl⟩ := h3
      exact h _ _ hw h2
    | enter f args =>
      obtain ⟨rfl, hc⟩ := h3
      exact ⟨fun e => by simp [Fence.wide, Fence.inRound] at e, ((callsIn_wide.2 hc).inRound r).mono fun e w'' ⟨he, hw''⟩ => by subst he; exact h _ _ hw'' h2⟩
    | _ => exact h3.elim

theorem any_round {Q : Act → Prop} {Q' : Exit → Act → World → Prop} (r : Nat) (hd : ∀ (i : Nat) (o : Oper), ops[i]? = some o → ∀ c, o.op ≠ .defer c) (hQ : ∀ a w, C w → Q a → Q' .normal a w) :
    ∀ (fuel : Nat) (listed : Array Bool) (a : Act) (w : World), C w → wpAnyQ P .any ops C Q fuel listed a → wpAnyIn (Fence.wide.inRound r) n P .any ops Q' fuel listed a w
  | 0, _, _, _, hw, h => ⟨h.1, hQ _ _ hw h.2⟩
  | fuel + 1, listed, a, w, hw, h => ⟨fun h0 => hQ _ _ hw (h.1 h0), fun i hi => by
      have hh := h.2 i hi
      unfold qOp at hh
      unfold wpOpIn
      split
      · rename_i ho; simp only [ho] at hh; exact any_round r hd hQ fuel _ _ _ hw hh
      · rename_i o ho
        simp only [ho] at hh
        split
        · rename_i hg; simp only [hg, if_true] at hh
          exact quiet_round r (hd i o ho) hw (fun a' w' hw' => any_round r hd hQ fuel _ a' w' hw') hh
        · rename_i hg; simp only [hg] at hh
          exact ⟨fun _ _ => trivial, any_round r hd hQ fuel _ _ _ hw hh⟩⟩

/-- does no operation defer? -/
def calmB (ops : Array Oper) : Bool := ops.toList.all fun o => match o.op with | .defer _ => false | _ => true
theorem calm_spec (h : calmB ops = true) : ∀ (i : Nat) (o : Oper), ops[i]? = some o → ∀ c, o.op ≠ .defer c := by
  intro i o ho c hc
  have hm : o ∈ ops.toList := by
    obtain ⟨hi, e⟩ := Array.getElem?_eq_some_iff.1 ho
    rw [← e]; exact Array.getElem_mem_toList hi
  have := List.all_eq_true.1 h o hm
  rw [hc] at this
  cases this

theorem wpIn_region_kept {id : Nat} {Q : Exit → Act → World → Prop} {a : Act} {w : World} {l : List Oper} (r : Nat) (m : Nat) (w0 : World) (hm : P.follows .mixedOrders = true) (hB : Region.lexB .any l.toArray = true) (hd : calmB l.toArray = true) (hb : Below m w0 w)
    (h : wpQuiet P l.toArray (fun w' => ∃ x : Kw m w0, w' = x.1) (fun a' => ∀ w', (∃ x : Kw m w0, w' = x.1) → Q .normal a' w') l a) : (Code.region id l.toArray true).wpIn (Fence.wide.inRound r) n P Q a w := by
  simp only [Region.lexB, Bool.and_eq_true] at hB
  have hC : ∃ x : Kw m w0, w.drew = x.1 := ⟨⟨_, hb.drew⟩, rfl⟩
  refine wpIn_region_any hm (any_round r (calm_spec hd) (C := fun w' => ∃ x : Kw m w0, w' = x.1) (Q := fun a' => ∀ w', (∃ x : Kw m w0, w' = x.1) → Q .normal a' w') (fun _ w' hw' h => h w' hw') _ _ _ _ hC ?_)
  have := wpAnyQ_lex (P := P) (C := fun w' => ∃ x : Kw m w0, w' = x.1) (md := .any) hB.1 l 0 (Array.replicate l.toArray.size false) a (by simp) (by simpa using hB.2) h
  simpa using this

theorem upon_round {o : Oper} {a : Act} {K : Act → World → Prop} {Q : Exit → Act → World → Prop} (r : Nat) (q : Result Next) (h : o.upon P a K Q q) : o.uponIn (Fence.wide.inRound r) n P a K Q q := by
  cases q with
  | halt x w' =>
    cases x with
    | panic u => exact h
    | _ => exact h.elim
  | ok x w' =>
    cases x with
    | value u => exact h
    | skip => exact h
    | defer d => exact h
    | enter f args => exact ⟨fun e => by simp [Fence.wide, Fence.inRound] at e, (callsIn_wide.2 h).inRound r⟩
    | row row args => exact ⟨fun e => by simp [Fence.wide, Fence.inRound] at e, fun c cs _ => let ⟨v, w', q, s⟩ := h c cs; ⟨v, w', q, stepsIn_wide.2 s⟩⟩
    | _ => exact h.elim
theorem any_of_round {Q : Exit → Act → World → Prop} (r : Nat) (hd : ∀ (i : Nat) (o : Oper), ops[i]? = some o → ∀ c, o.op ≠ .defer c) (hno : ¬ LetsOut Q) :
    ∀ (fuel : Nat) (listed : Array Bool) (a : Act) (w : World), wpAny P .any ops Q fuel listed a w → wpAnyIn (Fence.wide.inRound r) n P .any ops Q fuel listed a w
  | 0, _, _, _, h => h
  | fuel + 1, listed, a, w, h => ⟨h.1, fun i hi => by
      have hh := h.2 i hi
      unfold wpOp at hh
      unfold wpOpIn
      split
      · rename_i ho; simp only [ho] at hh; exact any_of_round r hd hno fuel _ _ _ hh
      · rename_i o ho
        simp only [ho] at hh
        split
        · rename_i hg
          simp only [hg, if_true] at hh
          refine ⟨fun _ _ => trivial, ?_⟩
          rw [Oper.semAt_eq _ _ _ (hd i o ho)]
          refine upon_round r _ ?_
          have := Oper.wp_mono (K' := wpAnyIn (Fence.wide.inRound r) n P .any ops Q fuel (listed.setIfInBounds i true)) (fun a w h => any_of_round r hd hno fuel _ a w h) (hh.resolve_right fun h => hno h.2)
          exact this
        · rename_i hg; simp only [hg] at hh
          exact ⟨fun _ _ => trivial, any_of_round r hd hno fuel _ _ _ hh⟩⟩

theorem wpIn_region_held {id : Nat} {Q : Exit → Act → World → Prop} {a : Act} {w : World} (r : Nat) (S : World → Prop) (hm : P.follows .mixedOrders = true) (hd : calmB ops = true) (hno : ¬ LetsOut Q)
    (h : wpAnyH P .any ops Q S ops.size (Array.replicate ops.size false) a w.drew) : (Code.region id ops true).wpIn (Fence.wide.inRound r) n P Q a w :=
  wpIn_region_any hm (any_of_round r (calm_spec hd) hno _ _ _ _ (wpAny_of_held _ _ _ _ h))

variable {md : Region.Mode} {S : World → Prop} {Q : Exit → Act → World → Prop}
theorem wpIn_held_list {l : List Oper} {k id : Nat} {a : Act} {w : World} (hk : l.length = k) (r : Nat) (S : World → Prop) (hm : P.follows .mixedOrders = true) (hd : calmB l.toArray = true) (hno : ¬ LetsOut Q)
    (h : wpAnyH P .any l.toArray Q S k (Array.replicate k false) a w.drew) : (Code.region id l.toArray true).wpIn (Fence.wide.inRound r) n P Q a w := by
  subst hk
  exact wpIn_region_held r S hm hd hno h
theorem take_list {l : List Oper} {i : Nat} {oi : Oper} {v : Value} {fuel : Nat} {listed : Array Bool} {a : Act} {w : World} (hi : l[i]? = some oi)
    (hs : Region.noSelect l.toArray = true) (hf : Region.free md l.toArray listed i = true) (hr : (Region.ready md l.toArray listed).contains i = true) (hQ : ∀ c a w, Q (.panic c) (a.put oi.dst v) w → Q (.panic c) a w)
    (hw : Region.wanted oi (yielded l.toArray a.tmps) = true) (hy : ∀ w, S w → (execOp a.eval oi).run P w = .ok (.value v) w) (hS : S w)
    (h : wpAnyH P md l.toArray Q S fuel (listed.setIfInBounds i true) (a.put oi.dst v) w) : wpAnyH P md l.toArray Q S (fuel + 1) listed a w :=
  wpAnyH_take (by simpa using hi) hs hf hr hQ (Or.inl ⟨hw, hy⟩) hS h
theorem step_list {l : List Oper} {i : Nat} {o : Oper} {fuel : Nat} {listed : Array Bool} {a : Act} {w : World} (hr : Region.ready md l.toArray listed = [i]) (hi : l[i]? = some o) (hw : Region.wanted o (yielded l.toArray a.tmps) = true)
    (h : ∀ K : Act → World → Prop, (∀ a w, S w → wpAnyH P md l.toArray Q S fuel (listed.setIfInBounds i true) a w → K a w) → Oper.wp P o a w K Q) : wpAnyH P md l.toArray Q S (fuel + 1) listed a w :=
  wpAnyH_ready hr (by simp) (AllReadyH.cons (by simpa using hi) (fun K hK => by rw [if_pos hw]; exact h K (fun a w hS hh => hK a w hS (fun _ => hh))) AllReadyH.nil)
end
end Go.Proofs.Ytmgdidhhgdpobaa.Hand

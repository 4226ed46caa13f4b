/- The row and the tied card of TallyEither: its walk, over every argument, the variables as they are laid. -/
import Derived.Test.YtcbhnhoicecnnaaDoorZD6
import Derived.Test.YtcbhnhoicecnnaaDoorCards
import Derived.Test.YtcbhnhoicecnnaaDoorProg
import Derived.Test.YtcbhnhoicecnnaaDoorRows
import Derived.Test.YtcbhnhoicecnnaaDoorTie
import Derived.ArgAppend
import Derived.Below
import Derived.BigQuiet
import Derived.Deep.AppendLies
import Derived.Deep.CutBlock
import Derived.Deep.DeepCutAuto
import Derived.Deep.Draws
import Derived.Deep.LoopGhost
import Derived.Deep.OwnRows
import Derived.Deep.QuietTactic
import Derived.Deep.RegionHeld3
import Derived.KernelRfl
import Derived.Laws.BitsLemmas
import Derived.Laws.BytesArg
import Derived.Laws.IdiomCopy
import Derived.Laws.MakeOwn
import Derived.Laws.OwnMore
import Derived.Laws.Rows
import Derived.Laws.Slices
import Derived.Lib.AppendStr
import Derived.Lib.ConvBytes
import Derived.Maps.AppendAt
import Derived.OrdersHeld
import Derived.OwnWalk
import Derived.RowKit
import Derived.RowKit3
import Derived.SevenTiedAt
import Derived.Tactics
import Derived.WalkKit
import Derived.WideLaws
set_option linter.unusedVariables false
set_option linter.unusedSimpArgs false
section
set_option linter.unusedVariables false
set_option linter.unusedSimpArgs false
namespace Go.Proofs.YtcbhnhoicecnnaaDoorW.PrintWords
open Go.RowKit
theorem own_nil (W : World) (base : Nat) (e : TypeId) (size : Nat) : W.ownsRow base e size (.slice none 0 0) 0 [] := ⟨by simp, .inl ⟨rfl, rfl⟩⟩
section
variable {P : Program} {ops : Array Oper} {rest : List Oper} {o : Oper} {a : Act} {Q : Exit → Act → World → Prop}
end
section
variable {P : Program}
end
section
variable {P : Program} {ops : Array Oper} {rest : List Oper} {o : Oper} {a : Act} {Q : Exit → Act → World → Prop}
end
section
variable {P : Program} {ops : Array Oper} {rest : List Oper} {o : Oper} {a : Act} {Q : Exit → Act → World → Prop}
end
section
variable {P : Program} {ops : Array Oper} {o : Oper} {a : Act} {Q : Exit → Act → World → Prop} {K : Act → World → Prop}
end
section
variable {α : Type} {enc : α → Value} {d : α}
end
section
variable {α : Type} {P : Program} {ops : Array Oper} {rest : List Oper} {o : Oper} {a : Act} {Q : Exit → Act → World → Prop}
end
section
variable {P : Program}
end
section
variable {α : Type} {R R' : α → List Value → Prop} {e : TypeId} {size : Nat} {w w1 : World} {base : Nat} {v : Value} {ps : List α}
theorem OwnRow.none_ (R : α → List Value → Prop) (e : TypeId) (size : Nat) (w : World) (base : Nat) : OwnRow R e size w base (.slice none 0 0) [] := ⟨[], own_nil _ _ _ _, Reps.none _ _⟩
end
section
variable {P : Program} {ops : Array Oper} {rest : List Oper} {o : Oper} {a : Act} {Q : Exit → Act → World → Prop} {α : Type} {R : α → List Value → Prop}
end
section
variable {P : Program} {ops : Array Oper} {o : Oper} {a : Act} {Q : Exit → Act → World → Prop} {K : Act → World → Prop} {α : Type} {R : α → List Value → Prop}
end
section
variable {α : Type} {P : Program}
end
section
variable {P : Program} {ops : Array Oper} {rest : List Oper} {o : Oper} {a : Act} {Q : Exit → Act → World → Prop}
end
namespace Kd
section
variable {α : Type} {d : Kd α} {e : Nat} {w w1 : World} {base : Nat} {ok ok' : Nat → Prop} {v : Value} {xs : List α}
theorem R_nil (d : Kd α) (e : Nat) (w : World) (base : Nat) (ok : Nat → Prop) : d.R e w base ok (.slice none 0 0) [] := ⟨fun k hk => by simp [Value.ownBlock] at hk, OwnRow.none_ _ _ _ _ _⟩
end
theorem R_appended {α : Type} {d : Kd α} {e base : Nat} {ok okp : Nat → Prop} {W w1 : World} {v v1 : Value} {xs : List α} {p : α} {inner cs : List Value} (h0 : ∀ k, v.ownBlock = some k → ok k) (hr : Reps (d.M W base (fun k => ok k ∧ some k ≠ v.ownBlock)) d.sz xs inner) (hp : d.M W base okp p cs) (hokp : ∀ k, okp k → ok k ∧ some k ≠ v.ownBlock) (hfresh : ∀ k, W.heap.size ≤ k → ok k)
    (hown : w1.ownsRow base e d.sz v1 (xs.length + 1) (inner ++ cs)) (hg : W.grownBy w1 v.ownBlock) (hat : v1.ownBlock = v.ownBlock ∨ ∃ b, v1.ownBlock = some b ∧ W.heap.size ≤ b) : d.R e w1 base ok v1 (xs ++ [p]) := by
  have hne : ∀ k, some k ≠ v.ownBlock → k < W.heap.size → some k ≠ v1.ownBlock := by
    intro k hk hlt
    rcases hat with hat | ⟨b, hb, hle⟩
    · rw [hat]; exact hk
    · rw [hb]
      intro he
      injection he with he
      omega
  have step : ∀ {q : α} {c : List Value} {o : Nat → Prop}, d.M W base o q c → (∀ k, o k → ok k ∧ some k ≠ v.ownBlock) → d.M w1 base (fun k => ok k ∧ some k ≠ v1.ownBlock) q c := by
    intro q c o hq ho
    have h1 := d.M_move (w1 := w1) (fun k hk => hg.block k hk.2.2.1 (ho k hk.1).2) (d.M_bound hq)
    exact d.M_mono (fun k hk => ⟨(ho k hk.1).1, hne k (ho k hk.1).2 hk.2.2.1⟩) h1
  refine ⟨fun k hk => ?_, inner ++ cs, by rw [List.length_append, List.length_singleton]; exact hown, ?_⟩
  · rcases hat with hat | ⟨b, hb, hle⟩
    · exact h0 k (hat ▸ hk)
    · rw [hb] at hk
      injection hk with hk
      exact hfresh k (by omega)
  · exact (hr.imp_ (fun _ _ hq => step hq (fun _ hk => hk))).snoc (step hp hokp) (d.K_len (d.K_of_M hp))
section
variable {P : Program} {ops : Array Oper} {rest : List Oper} {o : Oper} {a : Act} {Q : Exit → Act → World → Prop} {α : Type}
theorem R_append (d : Kd α) {w0 W : World} (base : Nat) (hgd : o.guard = none) (s x : Operand) (t e : TypeId) (z : Value) (bytes : Nat)
    (ho : o.op = .call { callee := .builtin .append, args := #[s, x], argTypes := #[t, t] })
    (ht : P.underlying t = some (.slice e)) (hinfo : (P.info? e).map (fun i => (i.zero, i.size, i.bytes)) = some (some z, d.sz, bytes)) (hz : z.cells.size = d.sz) (hs0 : 0 < d.sz) (hb0 : 0 < bytes)
    (v : Value) (xs : List α) (p : α) (cs : List Value) (ok okp : Nat → Prop) (hs : a.eval s = v) (hx : a.eval x = .slice (some ⟨W.heap.size, 0, none⟩) 1 1) (hp : d.M W base okp p cs) (hokp : ∀ k, okp k → ok k ∧ some k ≠ v.ownBlock) (hfresh : ∀ k, W.heap.size ≤ k → ok k)
    (HO : d.R e W base ok v xs) (HB : Below base w0 W) (hbase : base ≤ W.heap.size) (hl : (xs.length + 1) * bytes ≤ 140737488355328)
    (h : ∀ v1 w1, d.R e w1 base ok v1 (xs ++ [p]) → Below base w0 w1 → W.grownBy w1 v.ownBlock → (v1.ownBlock = v.ownBlock ∨ ∃ b, v1.ownBlock = some b ∧ W.heap.size ≤ b) → wpList P ops Q rest (a.put o.dst v1) w1) :
    wpList P ops Q (o :: rest) a (W.alloc (.cells cs.toArray e)) := by
  obtain ⟨h0, inner, hown, hr⟩ := HO
  refine print_append_cells base hgd s x t e z d.sz bytes ho ht hinfo hz hs0 hb0 v xs.length inner cs hs hx (d.K_len (d.K_of_M hp)) (d.K_one (d.K_of_M hp)) hown HB hbase hl ?_
  intro v1 w1 hown1 hb1 hg1 hat1
  exact h v1 w1 (R_appended h0 hr hp hokp hfresh hown1 hg1 hat1) hb1 hg1 hat1
end
section
variable {P : Program} {ops : Array Oper} {o : Oper} {a : Act} {Q : Exit → Act → World → Prop} {Kc : Act → World → Prop} {α : Type}
end
end Kd
namespace Kd
section
variable {α : Type} {F : Kd α → Kd α} {sz : Nat} {E : List Nat} {hs : ∀ n, (upto F sz E n).sz = sz} {hE : ∀ n q, q ∈ (upto F sz E n).E → q ∈ E}
end
end Kd
namespace Kd
end Kd
namespace Kd
section
variable {α β : Type} {d : Kd α} {d' : Kd β} {e e' : Nat} {w w1 W : World} {base b b' : Nat} {ok ok' okv oku : Nat → Prop} {v u : Value} {xs : List α} {ys : List β}
theorem C_nil (d : Kd α) (w : World) : d.C w none ([] : List α).length [] := ⟨rfl, by simp, fun h => absurd h (Nat.lt_irrefl 0)⟩
end
section
variable {w W : World} {A : Option Addr} {n : Nat}
variable {α : Type} {enc : α → Value} {h1 : ∀ x, (enc x).oneCell' = true} {e base g cap : Nat} {ok : Nat → Prop} {xs : List α}
end
section
variable {P : Program} {ops : Array Oper} {rest : List Oper} {o : Oper} {a : Act} {Q : Exit → Act → World → Prop}
variable {α : Type}
end
end Kd
section
variable {P : Program}
end
section
variable {w w1 : World} {base n size : Nat} {e : TypeId} {v : Value} {xs : List Value}
theorem q_of_own (h : w.ownsRow base e size v n xs) : QRow w base e size v n xs := by
  obtain ⟨h1, h2⟩ := h
  refine ⟨h1, ?_⟩
  rcases h2 with ⟨rfl, h0⟩ | ⟨g, cap, cur, rfl, hb, hh, hnc, hcm, hcs, ht⟩
  · exact .inl ⟨h0, none, rfl, fun a ha => by cases ha⟩
  · exact .inr ⟨g, 0, cap, cur, by rw [Nat.zero_mul], hb, hh, hnc, by rw [Nat.zero_add]; exact hcm, by rw [Nat.zero_add]; exact hcs, by rw [Nat.zero_mul, List.drop_zero]; exact ht⟩
end
section
variable {P : Program}
end
namespace Kd
section
variable {α : Type} {d : Kd α} {e : Nat} {w w1 W : World} {base : Nat} {ok ok' : Nat → Prop} {v : Value} {xs : List α}
theorem Q_of_R (h : d.R e w base ok v xs) : d.Q e w base ok v xs := by
  obtain ⟨h0, inner, ho, hr⟩ := h
  exact ⟨h0, inner, q_of_own ho, hr⟩
theorem Q_nil (d : Kd α) (e : Nat) (w : World) (base : Nat) (ok : Nat → Prop) : d.Q e w base ok (.slice none 0 0) [] := Q_of_R (R_nil d e w base ok)
end
section
variable {P : Program} {ops : Array Oper} {rest : List Oper} {o : Oper} {a : Act} {Q' : Exit → Act → World → Prop} {Kc : Act → World → Prop} {α : Type}
end
end Kd
namespace Kd
section
variable {α : Type} {d : Kd α} {e e' : Nat} {w w1 W : World} {base : Nat} {ok : Nat → Prop} {u v : Value} {xs : List α}
end
end Kd
namespace Kd
section
variable {α : Type} {d : Kd α} {e base g n cap : Nat} {ok okp : Nat → Prop} {W : World} {xs : List α}
end
end Kd
namespace Kd
section
variable {α : Type} {F : Kd α → Kd α} {sz : Nat} {E : List Nat} {hs : ∀ n, (upto F sz E n).sz = sz} {hE : ∀ n q, q ∈ (upto F sz E n).E → q ∈ E}
end
end Kd
namespace Kd
section
variable {P : Program} {ops : Array Oper} {rest : List Oper} {o : Oper} {a : Act} {Q : Exit → Act → World → Prop} {α : Type}
end
end Kd
namespace Kd
section
variable {P : Program} {ops : Array Oper} {rest : List Oper} {o : Oper} {a : Act} {Q : Exit → Act → World → Prop} {α : Type}
end
end Kd
namespace Kd
section
variable {α : Type} {k : Kd α} {w : World} {A : Option Addr} {xs : List α} {m c : Nat}
end
end Kd
section
variable {P : Program}
end
namespace Kd
section
variable {α β : Type} {d : Kd α} {d' : Kd β} {e e' base base' n : Nat} {ok ok' : Nat → Prop} {w W w1 W1 : World} {v u : Value} {xs : List α} {ys : List β} {A : Option Addr} {c : Nat}
end
section
variable {α : Type} {enc : α → Value} {h1 : ∀ x, (enc x).oneCell' = true} {w W : World} {A : Option Addr} {n g : Nat} {xs : List α}
end
end Kd
namespace Kd
section
variable {α : Type} {d : Kd α} {e base g : Nat} {ok : Nat → Prop} {w w1 : World} {v : Value} {xs : List α} {o : Obj}
end
end Kd
section
variable {P : Program} {ops : Array Oper} {rest : List Oper} {o : Oper} {a : Act} {Q : Exit → Act → World → Prop}
end
namespace Kd
section
variable {α : Type} {enc : α → Value} {h1 : ∀ x, (enc x).oneCell' = true} {e base g n cap : Nat} {ok : Nat → Prop} {W : World} {xs : List α}
end
end Kd
section
variable {P : Program} {ops : Array Oper} {rest : List Oper} {o : Oper} {a : Act} {Q : Exit → Act → World → Prop}
end
namespace Kd
section
variable {α : Type} {enc : α → Value} {h1 : ∀ x, (enc x).oneCell' = true} {e base g n cap : Nat} {ok : Nat → Prop} {W : World} {xs : List α}
end
end Kd
section
variable {P : Program} {ops : Array Oper} {rest : List Oper} {o : Oper} {a : Act} {Q : Exit → Act → World → Prop} {W : World}
end
section
variable {P : Program} {ops : Array Oper} {o : Oper} {a : Act} {Q : Exit → Act → World → Prop} {Kc : Act → World → Prop}
namespace Kd
variable {α : Type}
end Kd
end
section
variable {P : Program} {tmps : Array Value} {w : World}
end
namespace Kd
section
variable {P : Program} {α : Type}
end
section
variable {P : Program} {ops : Array Oper} {rest : List Oper} {o : Oper} {a : Act} {Q : Exit → Act → World → Prop} {Kc : Act → World → Prop} {α : Type}
end
end Kd
end Go.Proofs.YtcbhnhoicecnnaaDoorW.PrintWords
end
namespace Go.Proofs.YtcbhnhoicecnnaaDoorW.PrintWords
open Go.RowKit
namespace Kd
section
variable {α β : Type} {d : Kd α} {d' : Kd β} {e e' : Nat} {w w1 W : World} {base b : Nat} {ok ok' okv oku : Nat → Prop} {u v : Value} {xs : List α} {ys : List β}
theorem S_nil (d : Kd α) (e : Nat) (w : World) (base : Nat) (ok : Nat → Prop) : S d e w base ok (.slice none 0 0) [] := ⟨fun _ => 0, R_nil _ _ _ _ _⟩
end
section
variable {α β : Type} {d : Kd α} {d' : Kd β} {e e' g : Nat} {w w1 W : World} {base b : Nat} {ok ok' okv oku : Nat → Prop} {u v : Value} {xs : List α} {ys : List β}
end
section
variable {P : Program} {ops : Array Oper} {rest : List Oper} {o : Oper} {a : Act} {Q : Exit → Act → World → Prop} {Kc : Act → World → Prop} {α : Type}
end
section
variable {α β : Type} {d : Kd α} {e e' g n cap : Nat} {w w1 W : World} {base : Nat} {ok ok' oki okp : Nat → Prop} {u v : Value} {xs : List α} {i : Int} {c : List Value}
end
section
variable {P : Program} {ops : Array Oper} {rest : List Oper} {o : Oper} {a : Act} {Q : Exit → Act → World → Prop} {α : Type}
end
end Kd
end Go.Proofs.YtcbhnhoicecnnaaDoorW.PrintWords
namespace Go.Proofs.YtcbhnhoicecnnaaDoorW.PrintWords
open Go.RowKit
namespace Foot
variable {P Q : World → Prop} {W W1 : World} {ok ok' : Nat → Prop}
end Foot
namespace Kd
section
variable {α β : Type} {d : Kd α} {e base n n' cc g N : Nat} {ok ok' okp S : Nat → Prop} {w w0 w1 W W1 : World} {A A' : Option Addr} {u v v1 : Value} {xs : List α} {xs' : List β} {d' : Kd β} {x : α} {c : List Value}
theorem F_nil (d : Kd α) (W : World) (ok : Nat → Prop) : F d W ok none ([] : List α).length [] := fun W' _ => C_nil d W'
theorem FK_of_M (h : d.M W base ok x c) : FK d W ok x c := fun _ hW => d.K_of_M (M_step h hW)
end
end Kd
end Go.Proofs.YtcbhnhoicecnnaaDoorW.PrintWords
namespace Go.Proofs.YtcbhnhoicecnnaaDoorW.PrintWords
open Go.RowKit
namespace Kd
def chunks (sz : Nat) (n : Nat) (inner : List Value) : List (List Value) := (List.range n).map fun j => (inner.drop (j * sz)).take sz
theorem chunks_length (sz n : Nat) (inner : List Value) : (chunks sz n inner).length = n := by simp [chunks]
theorem chunks_at {sz n : Nat} {inner : List Value} {j : Nat} (hj : j < n) : (chunks sz n inner)[j]? = some ((inner.drop (j * sz)).take sz) := by simp [chunks, hj]
theorem chunks_get {sz n : Nat} {inner : List Value} {j : Nat} {c : List Value} (h : (chunks sz n inner)[j]? = some c) : c = (inner.drop (j * sz)).take sz := by
  have hj : j < n := by have := (List.getElem?_eq_some_iff.1 h).1; rwa [chunks_length] at this
  rw [chunks_at hj] at h
  injection h with h
  exact h.symm
theorem reps_raw {α : Type} {Rr : α → List Value → Prop} {sz : Nat} {xs : List α} {inner : List Value} (h : Reps Rr sz xs inner) (hR : ∀ x c, Rr x c → c.length = sz ∧ ∀ u ∈ c, u.oneCell' = true) : Reps (fun x cs => cs = x ∧ cs.length = sz ∧ ∀ u ∈ cs, u.oneCell' = true) sz (chunks sz xs.length inner) inner := by
  refine ⟨by rw [chunks_length]; exact h.1, fun j p hj => ?_⟩
  have hjl : j < xs.length := by have := (List.getElem?_eq_some_iff.1 hj).1; rwa [chunks_length] at this
  have hp := chunks_get hj
  exact ⟨hp.symm, hR _ _ (h.2 j _ (List.getElem?_eq_getElem hjl))⟩
section
variable {α : Type} {d : Kd α} {e base n cc g : Nat} {ok ok' okp S : Nat → Prop} {w w1 W W1 : World} {A : Option Addr} {u v v1 : Value} {xs : List α} {x : α} {c : List Value}
theorem R_N (h : d.R e w base ok v xs) : N d e w base ok v xs := by
  obtain ⟨h0, inner, ho, hr⟩ := h
  refine ⟨h0, chunks d.sz xs.length inner, chunks_length _ _ _, ⟨fun k hk => hk.symm, inner, by rw [chunks_length]; exact ho, reps_raw hr (fun x c hp => ⟨d.K_len (d.K_of_M hp), d.K_one (d.K_of_M hp)⟩)⟩, fun j x c hx hc => ?_⟩
  rw [chunks_get hc]
  exact FK_of_M (hr.2 j x hx)
theorem N_nil (d : Kd α) (e : Nat) (w : World) (base : Nat) (ok : Nat → Prop) : N d e w base ok (.slice none 0 0) [] := R_N (R_nil _ _ _ _ _)
end
end Kd
end Go.Proofs.YtcbhnhoicecnnaaDoorW.PrintWords
namespace Go.Proofs.YtcbhnhoicecnnaaDoorW.PrintMore
open Go.RowKit Go.Proofs.YtcbhnhoicecnnaaDoorW.PrintWords
namespace Kd
open Go.Proofs.YtcbhnhoicecnnaaDoorW.PrintWords.Kd
end Kd
namespace Kd
open Go.Proofs.YtcbhnhoicecnnaaDoorW.PrintWords.Kd
section
variable {α : Type} {d : Kd α} {e base g N : Nat} {ok : Nat → Prop} {W w1 : World} {u v : Value} {xs : List α}
end
end Kd
end Go.Proofs.YtcbhnhoicecnnaaDoorW.PrintMore
namespace Go.Proofs.YtcbhnhoicecnnaaDoorW.PrintWords
open Go.RowKit
section
variable {P : Program} {ops : Array Oper} {rest : List Oper} {o : Oper} {a : Act} {Q : Exit → Act → World → Prop} {W : World}
theorem gate_builtin {b : Builtin} {xs : Array Operand} {ts : Array TypeId} (_ho : o.op = .call { callee := .builtin b, args := xs, argTypes := ts }) (h : wpList P ops Q (o :: rest) a W) : wpList P ops Q (o :: rest) a W := h
end
namespace Kd
section
variable {α : Type} {d : Kd α} {e base : Nat} {ok : Nat → Prop} {W w1 : World} {v : Value} {xs : List α}
end
section
variable {α : Type} {d : Kd α} {e base g n cap : Nat} {ok oki okp : Nat → Prop} {W : World} {xs : List α} {i : Int} {c : List Value}
end
section
variable {α : Type} {d : Kd α} {e base b b' g N : Nat} {ok ok1 : Nat → Prop} {W W2 w1 : World} {u v : Value} {xs ys : List α} {S : Nat → Prop}
end
end Kd
end Go.Proofs.YtcbhnhoicecnnaaDoorW.PrintWords
namespace Go.Proofs.YtcbhnhoicecnnaaDoorW.PrintWords
open Go.RowKit
namespace Kd
section
variable {α β : Type} {d : Kd α} {e base base' n m c g N' lo hi : Nat} {ok ok' S : Nat → Prop} {w W w1 : World} {A : Option Addr} {ad : Addr} {u v v1 : Value} {xs : List α}
theorem V_nil (d : Kd α) (e : Nat) (W : World) (base : Nat) (ok : Nat → Prop) : V d e W base ok (.slice none 0 0) [] := ⟨none, 0, rfl, Nat.le_refl _, F_nil d W ok⟩
end
end Kd
end Go.Proofs.YtcbhnhoicecnnaaDoorW.PrintWords
namespace Go.Proofs.YtcbhnhoicecnnaaDoor.PrK
open Go.RowKit Go.Proofs.YtcbhnhoicecnnaaDoorW.PrintWords Go.Proofs.YtcbhnhoicecnnaaDoorW.PrintLast Go.Proofs.YtcbhnhoicecnnaaDoorW.PrintMore Go.Proofs.YtcbhnhoicecnnaaDoor.Hand
attribute [local go_sem] max2_int min2_int max_two min_two max_three min_three max_four min_four
set_option linter.unusedVariables false
set_option linter.unusedSimpArgs false
theorem info3 : (Tryd.prog.info? 3).map (fun i => (i.zero, i.size, i.bytes)) = some (some (.int .i64 0), 1, 8) := by kernel_rfl
end Go.Proofs.YtcbhnhoicecnnaaDoor.PrK
namespace Go.Proofs.YtcbhnhoicecnnaaDoor.Hand
set_option linter.unusedVariables false
set_option linter.unusedSimpArgs false
open Go.RowKit Go.Shelf Go.Maps Go.Proofs.YtcbhnhoicecnnaaDoorW.PrintWords Go.Proofs.YtcbhnhoicecnnaaDoorW.PrintLast Go.Proofs.YtcbhnhoicecnnaaDoorW.PrintMore Go.Proofs.YtcbhnhoicecnnaaDoor.PrK
set_option maxHeartbeats 4000000 in
set_option maxRecDepth 100000 in
theorem sumT_not (s : ShM) (w : World) (hv : VarsAt w) (h : ShR w s) (hS : s.Ok) (h0 : 0 < offS s.sh) :
    Calls Tryd.prog 33 #[.agg #[.slice s.A0 s.l0.length s.c0, .slice s.A1 s.l1.length s.c1, .int .i64 s.a2, .int .i64 s.a3, .slice s.A4 s.l4.length s.c4]] w fun e w' => e = .returned (.tuple #[.agg #[.int .i64 0, .int .i64 0], .int .i64 24]) ∧ Below w.heap.size w w' := by
  obtain ⟨W, hW⟩ : ∃ W, W = w.alloc (.cells #[.slice s.A0 s.l0.length s.c0, .slice s.A1 s.l1.length s.c1, .int .i64 s.a2, .int .i64 s.a3, .slice s.A4 s.l4.length s.c4] 26) := ⟨_, rfl⟩
  obtain ⟨b, hbe⟩ : ∃ b, b = w.heap.size := ⟨_, rfl⟩
  have hb : Below w.heap.size w W := by rw [hW]; exact (Below.refl _ _).alloc (Nat.le_refl _) _
  have hX : BoxS W b s := by rw [hW, hbe]; exact box_new w s
  obtain ⟨W2, hW2⟩ : ∃ W2, W2 = W.alloc (.cells #[.int .i64 0, .int .i64 0] 24) := ⟨_, rfl⟩
  obtain ⟨r6, hr6⟩ : ∃ r6, r6 = b + 1 := ⟨_, rfl⟩
  have hsz : W.heap.size = r6 := by rw [hW, hr6, hbe]; simp
  have hb2 : Below W.heap.size W W2 := by rw [hW2]; exact (Below.refl _ _).alloc (Nat.le_refl _) _
  have hX2 := hX.below hb2
  have h6 : W2.heap[r6]? = some (.cells #[.int .i64 0, .int .i64 0] 24 (0, 0)) := by rw [hW2, ← hsz]; exact heap_alloc_last _ _
  have hw2 : Below w.heap.size w W2 := hb.trans (hb2.mono hb.size)
  have H6 := Lib.hid (And.intro h6 (And.intro hw2 (And.intro (by omega : w.heap.size ≤ r6) (And.intro hX2 (And.intro (by omega : w.heap.size ≤ b) (by omega : b ≠ r6))))))
  have HO := Lib.hid (heldNot_ok s W2 (hv.below hw2) (h.below hw2) hS _ rfl h0)
  have x0 := hX2.c0
  have x1 := hX2.c1
  have x2 := hX2.c2
  have x3 := hX2.c3
  have x4 := hX2.c4
  clear h hv hS h0 hb hX hb2 hX2 h6 hw2 hsz
  go_enter Tryd.func33, Tryd.ntmps33
  go_upto_region 1 with fail
  rw [← hW, ← hbe, ← hr6, ← hW2]
  clear hW hbe hr6 hW2
  go_upto_region 3 with (go_at_call 62; refine HO.out.mono ?_; rintro e w1 ⟨rfl, h1⟩; have H1 := Lib.hid h1; clear h1)
  have k6 : w1.heap[r6]? = some (.cells #[.int .i64 0, .int .i64 0] 24 (0, 0)) := (H1.out.block _ (heap_lt H6.out.1)).trans H6.out.1
  have c60 : w1.cell? ⟨r6, 0, none⟩ = some (.int .i64 0) := by rw [cell_of_row _ _ _ _ _ _ k6]; rfl
  have c61 : w1.cell? ⟨r6, 1, none⟩ = some (.int .i64 0) := by rw [cell_of_row _ _ _ _ _ _ k6]; rfl
  have f60 := frozen_of_row w1 r6 0 _ _ k6
  have f61 := frozen_of_row w1 r6 1 _ _ k6
  have K6 := Lib.hid k6
  clear k6 x0 x1 x2 x3 x4
  go_wp2_with fail
  have hz := set2_block (u := .int .i64 0) (v := .int .i64 0) K6.out
  refine bodyPost_ret (results_ct rfl _ _ r6 24 #[.int .i64 0, .int .i64 0] (0, 0) _ rfl hz Tryd.underlying24 rfl (by kernel_rfl)) rfl ?_
  exact ⟨rfl, below_setB (below_setB (H6.out.2.1.trans (H1.out.mono H6.out.2.1.size)) H6.out.2.2.1 _) H6.out.2.2.1 _⟩
set_option maxHeartbeats 4000000 in
set_option maxRecDepth 100000 in
theorem sureT_not (s : ShM) (w : World) (hv : VarsAt w) (h : ShR w s) (hS : s.Ok) (h0 : 0 < offS s.sh) :
    Calls Tryd.prog 31 #[.agg #[.slice s.A0 s.l0.length s.c0, .slice s.A1 s.l1.length s.c1, .int .i64 s.a2, .int .i64 s.a3, .slice s.A4 s.l4.length s.c4]] w fun e w' => e = .returned (.tuple #[.slice none 0 0, .int .i64 24]) ∧ Below w.heap.size w w' := by
  obtain ⟨W, hW⟩ : ∃ W, W = w.alloc (.cells #[.slice s.A0 s.l0.length s.c0, .slice s.A1 s.l1.length s.c1, .int .i64 s.a2, .int .i64 s.a3, .slice s.A4 s.l4.length s.c4] 26) := ⟨_, rfl⟩
  have hb : Below w.heap.size w W := by rw [hW]; exact (Below.refl _ _).alloc (Nat.le_refl _) _
  have hX : BoxS W w.heap.size s := by rw [hW]; exact box_new w s
  have HW := Lib.hid (And.intro hb hX)
  have HO := Lib.hid (heldNot_ok s W (hv.below hb) (h.below hb) hS _ rfl h0)
  have x0 := hX.c0
  have x1 := hX.c1
  have x2 := hX.c2
  have x3 := hX.c3
  have x4 := hX.c4
  clear h hv hS h0 hb hX
  go_enter Tryd.func31, Tryd.ntmps31
  go_upto_region 1 with fail
  rw [← hW]
  clear hW
  go_wp2_with (go_at_call 62; refine HO.out.mono ?_; rintro e w1 ⟨rfl, h1⟩; have H1 := Lib.hid h1; clear h1)
  refine bodyPost_ret (results_tmp2 rfl _ _ _) rfl ?_
  exact ⟨rfl, HW.out.1.trans (H1.out.mono HW.out.1.size)⟩
def greatS (s : ShM) : Prop := 10 < s.l0.length ∨ 10 < s.l1.length ∨ 60 < s.l4.length
set_option maxHeartbeats 4000000 in
set_option maxRecDepth 100000 in
theorem great_any (s : ShM) (w : World) (h : ShR w s) (r : Bool) (hr : r = true ↔ greatS s) :
    Calls Tryd.prog 16 #[.agg #[.slice s.A0 s.l0.length s.c0, .slice s.A1 s.l1.length s.c1, .int .i64 s.a2, .int .i64 s.a3, .slice s.A4 s.l4.length s.c4]] w fun e w' => e = .returned (.bool r) ∧ Below w.heap.size w w' := by
  obtain ⟨W, hW⟩ : ∃ W, W = w.alloc (.cells #[.slice s.A0 s.l0.length s.c0, .slice s.A1 s.l1.length s.c1, .int .i64 s.a2, .int .i64 s.a3, .slice s.A4 s.l4.length s.c4] 26) := ⟨_, rfl⟩
  have hb : Below w.heap.size w W := by rw [hW]; exact (Below.refl _ _).alloc (Nat.le_refl _) _
  obtain ⟨b, hbe⟩ : ∃ b, b = w.heap.size := ⟨_, rfl⟩
  have hX : BoxS W b s := by rw [hW, hbe]; exact box_new w s
  have HX := Lib.hid (And.intro hb hX)
  have x0 := hX.c0
  have x1 := hX.c1
  have x2 := hX.c2
  have x3 := hX.c3
  have x4 := hX.c4
  have HR := Lib.hid hr
  clear hX hb hr
  unfold greatS at HR
  go_enter Tryd.func16, Tryd.ntmps16
  go_upto_region 1 with fail
  rw [← hW, ← hbe]
  clear hW hbe
  by_cases g0 : (s.l0.length : Int) > 10
  · go_wp2_with fail
    refine bodyPost_ret (results_tmp (t := 2) rfl _ _ _) rfl ?_
    exact ⟨by rw [HR.out.2 (by omega)]; rfl, HX.out.1⟩
  by_cases g1 : (s.l1.length : Int) > 10
  · go_wp2_with fail
    refine bodyPost_ret (results_tmp (t := 2) rfl _ _ _) rfl ?_
    exact ⟨by rw [HR.out.2 (by omega)]; rfl, HX.out.1⟩
  by_cases g4 : (s.l4.length : Int) > 60
  · go_wp2_with fail
    refine bodyPost_ret (results_tmp (t := 2) rfl _ _ _) rfl ?_
    exact ⟨by rw [HR.out.2 (by omega)]; rfl, HX.out.1⟩
  · have hr2 : r = false := by
      cases r
      · rfl
      · have := HR.out.1 rfl; omega
    go_wp2_with fail
    refine bodyPost_ret (results_tmp (t := 2) rfl _ _ _) rfl ?_
    exact ⟨by first | rfl | (rw [hr2]; rfl), HX.out.1⟩
theorem weights_rd (s : ShM) (w : World) (hv : VarsAt w) (h : ShR w s) (hS : s.Ok) :
    Calls Tryd.prog 28 #[.agg #[.slice s.A0 s.l0.length s.c0, .slice s.A1 s.l1.length s.c1, .int .i64 s.a2, .int .i64 s.a3, .slice s.A4 s.l4.length s.c4]] w fun e w' => ∃ A c, e = .returned (.tuple #[.slice A (bestL s).length c, .int .i64 0]) ∧ Kd.C (Kd.int .i64) w' A (bestL s).length (bestL s) ∧ (bestL s).length ≤ c ∧ Below w.heap.size w w' := by
  refine (weights_ok s w hv h hS).mono ?_
  rintro e w' ⟨A7, c7, rfl, hx, hb⟩
  obtain ⟨A7', c7', e7, hc7, -, hr7⟩ := own_out hx
  have e8 : Value.slice A7 (s.l0.length + s.l1.length + 1) c7 = Value.slice A7' (bestL s).length c7' := e7
  refine ⟨A7', c7', by rw [e8], Kd.C_of_reads (d := (0 : Int)) (h1 := fun _ => rfl) hr7, hc7, hb⟩
theorem weights_ref (s : ShM) (hS : s.Ok) (A : Option Addr) (c : Nat) (w : World) (h : ShR w s) (hr : Kd.C (Kd.int .i64) w A (bestL s).length (bestL s)) (hc : (bestL s).length ≤ c) (nn : Int) (hnn : nn = offS s.sh) :
    Calls Tryd.prog 23 #[.agg #[.slice s.A0 s.l0.length s.c0, .slice s.A1 s.l1.length s.c1, .int .i64 s.a2, .int .i64 s.a3, .slice s.A4 s.l4.length s.c4], .slice A (bestL s).length c] w fun e w' => e = .returned (.tuple #[.int .i64 nn, .int .i64 0]) ∧ Below w.heap.size w w' :=
  peaveyref11_CheckWeights.calls 400 s.A0 s.c0 s.l0 s.A1 s.c1 s.l1 s.a2 s.a3 s.A4 s.c4 s.l4 A c (bestL s) nn 0 w h.r0 h.h0 h.r1 h.h1 h.r4 h.h4 hr hc (refWeights_any s hS (bestL s) (bestL_length s) (by omega) nn 0 (.inl ⟨bestL_in hS, by rw [bestL_bound hS, hnn], rfl⟩))
set_option maxHeartbeats 4000000 in
set_option maxRecDepth 100000 in
theorem found_any (s : ShM) (w : World) (hv : VarsAt w) (h : ShR w s) (hS : s.Ok) (nn : Int) (hnn : nn = offS s.sh) :
    Calls Tryd.prog 37 #[.agg #[.slice s.A0 s.l0.length s.c0, .slice s.A1 s.l1.length s.c1, .int .i64 s.a2, .int .i64 s.a3, .slice s.A4 s.l4.length s.c4]] w fun e w' => e = .returned (.tuple #[.int .i64 nn, .bool true]) ∧ Below w.heap.size w w' := by
  obtain ⟨W, hW⟩ : ∃ W, W = w.alloc (.cells #[.slice s.A0 s.l0.length s.c0, .slice s.A1 s.l1.length s.c1, .int .i64 s.a2, .int .i64 s.a3, .slice s.A4 s.l4.length s.c4] 26) := ⟨_, rfl⟩
  have hb : Below w.heap.size w W := by rw [hW]; exact (Below.refl _ _).alloc (Nat.le_refl _) _
  obtain ⟨b, hbe⟩ : ∃ b, b = w.heap.size := ⟨_, rfl⟩
  have hX : BoxS W b s := by rw [hW, hbe]; exact box_new w s
  have HX := Lib.hid (And.intro hb hX)
  have HR : Hid (∀ V, Below w.heap.size w V → ShR V s ∧ VarsAt V) := Lib.hid fun V hV => ⟨h.below hV, hv.below hV⟩
  have H1 : Hid (∀ V, Below w.heap.size w V → Calls Tryd.prog 25 #[.agg #[.slice s.A0 s.l0.length s.c0, .slice s.A1 s.l1.length s.c1, .int .i64 s.a2, .int .i64 s.a3, .slice s.A4 s.l4.length s.c4]] V (fun e w' => e = .returned (.tuple #[.int .i64 nn, .int .i64 0]) ∧ Below V.heap.size V w')) := Lib.hid fun V hV => off_ok s V (HR.out V hV).2 (HR.out V hV).1 hS nn hnn
  have H3 := Lib.hid fun (V : World) (hV : Below w.heap.size w V) => table_ok s V (HR.out V hV).2 (HR.out V hV).1 hS
  have H4 := Lib.hid fun (V : World) (hV : Below w.heap.size w V) => weights_rd s V (HR.out V hV).2 (HR.out V hV).1 hS
  have H5 : Hid (∀ (V : World) (Tb : Nat), Below w.heap.size w V → Kd.C (Kd.int .i64) V (some ⟨Tb, 0, none⟩) (bestT s.sh).length (bestT s.sh) → Calls Tryd.prog 19 #[.agg #[.slice s.A0 s.l0.length s.c0, .slice s.A1 s.l1.length s.c1, .int .i64 s.a2, .int .i64 s.a3, .slice s.A4 s.l4.length s.c4], .slice (some ⟨Tb, 0, none⟩) (bestT s.sh).length (bestT s.sh).length] V (fun e w' => e = .returned (.tuple #[.int .i64 nn, .int .i64 0]) ∧ Below V.heap.size V w')) := Lib.hid fun V Tb hV hT => refWrong_ok s (some ⟨Tb, 0, none⟩) (bestT s.sh).length (bestT s.sh) V (HR.out V hV).1 hT (Nat.le_refl _) hS (best_in hS) nn hnn
  have H6 : Hid (∀ (V : World) (A : Option Addr) (c : Nat), Below w.heap.size w V → Kd.C (Kd.int .i64) V A (bestL s).length (bestL s) → (bestL s).length ≤ c → Calls Tryd.prog 23 #[.agg #[.slice s.A0 s.l0.length s.c0, .slice s.A1 s.l1.length s.c1, .int .i64 s.a2, .int .i64 s.a3, .slice s.A4 s.l4.length s.c4], .slice A (bestL s).length c] V (fun e w' => e = .returned (.tuple #[.int .i64 nn, .int .i64 0]) ∧ Below V.heap.size V w')) := Lib.hid fun V A c hV hA hc => weights_ref s hS A c V (HR.out V hV).1 hA hc nn hnn
  have x0 := hX.c0
  have x1 := hX.c1
  have x2 := hX.c2
  have x3 := hX.c3
  have x4 := hX.c4
  clear hS hnn hX hb h hv
  go_enter Tryd.func37, Tryd.ntmps37
  go_upto_region 1 with fail
  rw [← hW, ← hbe]
  clear hW hbe
  go_upto_region 2 with (go_at_call 25; refine (H1.out _ HX.out.1).mono ?_; rintro e v3 ⟨rfl, h1⟩; have Hv3 := Lib.hid h1; clear h1)
  clear x0 x1 x2 x3 x4
  replace HX := Lib.hid (And.intro (HX.out.1.trans (Hv3.out.mono HX.out.1.size)) (HX.out.2.below Hv3.out))
  have x0 := HX.out.2.c0
  have x1 := HX.out.2.c1
  have x2 := HX.out.2.c2
  have x3 := HX.out.2.c3
  have x4 := HX.out.2.c4
  go_upto_region 3 with (go_at_call 27; refine (H3.out _ HX.out.1).mono ?_; rintro e v5 ⟨Tb, rfl, hT, h1⟩; have HT := Lib.hid hT; have Hv5 := Lib.hid h1; clear h1 hT)
  clear x0 x1 x2 x3 x4
  replace HX := Lib.hid (And.intro (HX.out.1.trans (Hv5.out.mono HX.out.1.size)) (HX.out.2.below Hv5.out))
  have x0 := HX.out.2.c0
  have x1 := HX.out.2.c1
  have x2 := HX.out.2.c2
  have x3 := HX.out.2.c3
  have x4 := HX.out.2.c4
  go_upto_region 4 with (go_at_call 28; refine (H4.out _ HX.out.1).mono ?_; rintro e v6 ⟨A6, c6, rfl, hT, hc, h1⟩; have HA := Lib.hid (And.intro hT hc); have Hv6 := Lib.hid h1; clear h1 hT hc)
  clear x0 x1 x2 x3 x4
  replace HX := Lib.hid (And.intro (HX.out.1.trans (Hv6.out.mono HX.out.1.size)) (HX.out.2.below Hv6.out))
  have x0 := HX.out.2.c0
  have x1 := HX.out.2.c1
  have x2 := HX.out.2.c2
  have x3 := HX.out.2.c3
  have x4 := HX.out.2.c4
  replace HT := Lib.hid (Kd.C_below HT.out Hv6.out)
  go_upto_region 7 with (go_at_call 19; refine (H5.out _ Tb HX.out.1 HT.out).mono ?_; rintro e v7 ⟨rfl, h1⟩; have Hv7 := Lib.hid h1; clear h1)
  clear x0 x1 x2 x3 x4
  replace HX := Lib.hid (And.intro (HX.out.1.trans (Hv7.out.mono HX.out.1.size)) (HX.out.2.below Hv7.out))
  have x0 := HX.out.2.c0
  have x1 := HX.out.2.c1
  have x2 := HX.out.2.c2
  have x3 := HX.out.2.c3
  have x4 := HX.out.2.c4
  replace HA := Lib.hid (And.intro (Kd.C_below HA.out.1 Hv7.out) HA.out.2)
  go_upto_region 8 with (go_at_call 23; refine (H6.out _ A6 c6 HX.out.1 HA.out.1 HA.out.2).mono ?_; rintro e v8 ⟨rfl, h1⟩; have Hv8 := Lib.hid h1; clear h1)
  clear x0 x1 x2 x3 x4
  replace HX := Lib.hid (HX.out.1.trans (Hv8.out.mono HX.out.1.size))
  go_wp2_with fail
  refine bodyPost_ret (results_tmp2 rfl _ _ _) rfl ?_
  exact ⟨rfl, HX.out⟩
def fineS (s : ShM) : Prop := ¬ greatS s ∧ s.Ok
set_option maxHeartbeats 4000000 in
set_option maxRecDepth 100000 in
theorem fine_any (s : ShM) (w : World) (h : ShR w s) (r : Bool) (hr : r = true ↔ fineS s) :
    Calls Tryd.prog 36 #[.agg #[.slice s.A0 s.l0.length s.c0, .slice s.A1 s.l1.length s.c1, .int .i64 s.a2, .int .i64 s.a3, .slice s.A4 s.l4.length s.c4]] w fun e w' => e = .returned (.bool r) ∧ Below w.heap.size w w' := by
  obtain ⟨W, hW⟩ : ∃ W, W = w.alloc (.cells #[.slice s.A0 s.l0.length s.c0, .slice s.A1 s.l1.length s.c1, .int .i64 s.a2, .int .i64 s.a3, .slice s.A4 s.l4.length s.c4] 26) := ⟨_, rfl⟩
  have hb : Below w.heap.size w W := by rw [hW]; exact (Below.refl _ _).alloc (Nat.le_refl _) _
  obtain ⟨b, hbe⟩ : ∃ b, b = w.heap.size := ⟨_, rfl⟩
  have hX : BoxS W b s := by rw [hW, hbe]; exact box_new w s
  have HX := Lib.hid (And.intro hb hX)
  have x0 := hX.c0
  have x1 := hX.c1
  have x2 := hX.c2
  have x3 := hX.c3
  have x4 := hX.c4
  have HR := Lib.hid hr
  have HG : Hid (∀ r : Bool, (r = true ↔ greatS s) → Calls Tryd.prog 16 #[.agg #[.slice s.A0 s.l0.length s.c0, .slice s.A1 s.l1.length s.c1, .int .i64 s.a2, .int .i64 s.a3, .slice s.A4 s.l4.length s.c4]] W fun e w' => e = .returned (.bool r) ∧ Below W.heap.size W w') := Lib.hid (great_any s W (h.below hb))
  have HC : Hid (s.l4.length ≤ 60 → ∀ V, Below W.heap.size W V → Calls Tryd.prog 21 #[.agg #[.slice s.A0 s.l0.length s.c0, .slice s.A1 s.l1.length s.c1, .int .i64 s.a2, .int .i64 s.a3, .slice s.A4 s.l4.length s.c4]] V fun e w' => e = .returned (.int .i64 (csE s)) ∧ Below V.heap.size V w') := Lib.hid fun h4 V hV => refCheck_any s V ((h.below hb).below hV) h4
  clear hX hb hr h
  go_enter Tryd.func36, Tryd.ntmps36
  go_upto_region 1 with fail
  rw [← hW, ← hbe]
  clear hW hbe
  by_cases hg : greatS s
  · have hr2 : r = false := by
      cases r
      · rfl
      · exact absurd hg (HR.out.1 rfl).1
    go_wp2_with (go_at_call 16; refine (HG.out true ⟨fun _ => hg, fun _ => rfl⟩).mono ?_; rintro e v1 ⟨rfl, h1⟩; have Hv1 := Lib.hid h1; clear h1)
    refine bodyPost_ret (results_tmp (t := 2) rfl _ _ _) rfl ?_
    exact ⟨by first | rfl | (rw [hr2]; rfl), HX.out.1.trans (Hv1.out.mono HX.out.1.size)⟩
  have h4 : s.l4.length ≤ 60 := by unfold greatS at hg; omega
  have hrb : r = (csE s == 0) := by
    have h1 : csE s = 0 ↔ s.Ok := csE_ok s
    by_cases e : csE s = 0
    · rw [HR.out.2 ⟨hg, h1.1 e⟩, e]; rfl
    · cases r
      · symm; simpa using e
      · exact absurd (h1.2 (HR.out.1 rfl).2) e
  go_wp2_with (first | (go_at_call 16; refine (HG.out false ⟨fun h => by simp at h, fun h => absurd h hg⟩).mono ?_; rintro e v1 ⟨rfl, h1⟩; have hX1 := HX.out.2.below h1; have y0 := hX1.c0; have y1 := hX1.c1; have y2 := hX1.c2; have y3 := hX1.c3; have y4 := hX1.c4; have Hv1 := Lib.hid h1; clear h1 hX1 x0 x1 x2 x3 x4) | (go_at_call 21; refine (HC.out h4 _ Hv1.out).mono ?_; rintro e v2 ⟨rfl, h1⟩; have Hv2 := Lib.hid (Hv1.out.trans (h1.mono Hv1.out.size)); clear h1 y0 y1 y2 y3 y4))
  refine bodyPost_ret (results_tmp (t := 2) rfl _ _ _) rfl ?_
  exact ⟨by first | rfl | (rw [hrb]; rfl), HX.out.1.trans (Hv2.out.mono HX.out.1.size)⟩
theorem info64 : (Tryd.prog.info? 2).map (fun i => (i.zero, i.size, i.bytes)) = some (some (.int .i64 0), 1, 8) := by kernel_rfl
theorem wpList_push_64 {ops : Array Oper} {rest : List Oper} {o : Oper} {a : Act} {w : World} {Q : Exit → Act → World → Prop} (hgd : o.guard = none) (s x : Operand)
    (hop : o.op = Op.call { callee := Callee.builtin Builtin.append, args := #[s, x], argTypes := #[27, 27] }) (base : Nat) (A : Option Addr) (c : Nat) (xs : List Int) (y : Int) {n : Nat} (hs : a.eval s = .slice A n c) (hown : w.ownsRow base 2 1 (.slice A n c) n (nums .i64 xs))
    (g : Nat) (hx : a.eval x = .slice (some ⟨g, 0, none⟩) 1 1) (hc : w.heap[g]? = some (.cells #[.int .i64 y] 2 (0, 0))) (hmax : xs.length < 1000) (hbase : base ≤ w.heap.size)
    (hK : ∀ A' c' w', w'.ownsRow base 2 1 (.slice A' (n + 1) c') (n + 1) (nums .i64 (xs ++ [y])) → w.grownBy w' (Value.ownBlock (.slice A n c)) → wpList Tryd.prog ops Q rest (a.put o.dst (.slice A' (n + 1) c')) w') : wpList Tryd.prog ops Q (o :: rest) a w :=
  wpList_plain hgd fun K hK' => by
    obtain ⟨i0, hi, hz0, hz1, hz2⟩ := info_parts info64
    have hl : xs.length = n := by have := hown.1; simp [nums] at this; exact this
    refine wp_append_own w s x 27 hop base 2 i0 (.int .i64 0) 1 8 Tryd.underlying27 hi hz0 hz1 hz2 rfl (by decide) _ n (nums .i64 xs) hs hown ⟨g, 0, none⟩ 1 1 [.int .i64 y] hx rfl (cells_of_row (xs := [.int .i64 y]) hc) (by simp [Value.oneCell']) (by unfold maxLen; omega) (by omega) hbase ?_
    intro v' w' h1 h2 _
    obtain ⟨A', c', rfl⟩ := own_opened h1
    exact hK' _ _ (hK A' c' w' (by rw [show nums .i64 (xs ++ [y]) = nums .i64 xs ++ [.int .i64 y] by simp [nums]]; exact h1) h2)
def numV (g1 g2 b : Int) (some_ : Bool) : Int := if some_ then g1 + Int.tmod b (g2 - g1 + 1) else g1
def numC (s : ShM) (by_ : List Int) (i : Nat) : Int := numV (rgAt s.sh.cs i).1 (rgAt s.sh.cs i).2 (rd by_ ((i % by_.length : Nat) : Int)) (decide (0 < by_.length))
def numL (s : ShM) (by_ : List Int) (k : Nat) : List Int := (List.range k).map (numC s by_)
theorem numL_length (s : ShM) (by_ : List Int) (k : Nat) : (numL s by_ k).length = k := by simp [numL]
theorem numL_succ (s : ShM) (by_ : List Int) (k : Nat) : numL s by_ (k + 1) = numL s by_ k ++ [numC s by_ k] := by simp [numL, List.range_succ]
theorem numL_at (s : ShM) (by_ : List Int) (k i : Nat) (h : i < k) : tat (numL s by_ k) i = numC s by_ i := by
  unfold tat numL
  rw [List.getD_eq_getElem?_getD, List.getElem?_map, List.getElem?_range h]; rfl
theorem rd_in {l : List Int} {B : Int} (h : ∀ n ∈ l, 0 ≤ n ∧ n ≤ B) (hB : 0 ≤ B) (i : Int) : 0 ≤ rd l i ∧ rd l i ≤ B := by
  unfold rd
  rw [List.getD_eq_getElem?_getD]
  cases hx : l[i.toNat]? with
  | none => exact ⟨Int.le_refl _, hB⟩
  | some v => exact h v (List.mem_of_getElem? hx)
theorem at_u16 {w : World} {A : Option Addr} {l : List Int} (h : Kd.C (Kd.int .u16) w A l.length l) {i : Nat} (hi : i < l.length) : ∃ ad, A = some ad ∧ w.cell? (ad.add i) = some (.int .u16 (rd l (i : Int))) := by
  obtain ⟨_, _, h3⟩ := h
  obtain ⟨ad, rfl, hc⟩ := h3 (by omega)
  refine ⟨ad, rfl, ?_⟩
  obtain ⟨cs, hcs, hK, hcell⟩ := hc i l[i] (by rw [List.getElem?_eq_getElem hi])
  have hK2 : cs = [.int .u16 l[i]] := hK
  have := hcell 0 (.int .u16 l[i]) (by rw [hK2]; rfl)
  have e : rd l (i : Int) = l[i] := by unfold rd; rw [Int.toNat_natCast, List.getD_eq_getElem?_getD, List.getElem?_eq_getElem hi]; rfl
  rw [e]
  have e2 : w.cell? (ad.add (i * 1 + 0)) = some (.int .u16 l[i]) := this
  rwa [Nat.mul_one, Nat.add_zero] at e2
set_option maxHeartbeats 4000000 in
set_option maxRecDepth 100000 in
theorem numbers_w (s : ShM) (hS : s.Ok) (A1 : Option Addr) (c1 : Nat) (l : List Int) (hb : ∀ n ∈ l, 0 ≤ n ∧ n ≤ 65535) (hbl : l.length ≤ 1000000) (w : World) (h : ShR w s) (hl : Kd.C (Kd.int .u16) w A1 l.length l) (hc : l.length ≤ c1) :
    Calls Tryd.prog 38 #[.agg #[.slice s.A0 s.l0.length s.c0, .slice s.A1 s.l1.length s.c1, .int .i64 s.a2, .int .i64 s.a3, .slice s.A4 s.l4.length s.c4], .slice A1 l.length c1] w fun e w' => ∃ A' c', e = .returned (.slice A' (numL s l s.l4.length).length c') ∧ (numL s l s.l4.length).length ≤ c' ∧ Kd.C (Kd.int .i64) w' A' (numL s l s.l4.length).length (numL s l s.l4.length) ∧ Below w.heap.size w w' := by
  obtain ⟨W, hW⟩ : ∃ W, W = w.alloc (.cells #[.slice s.A0 s.l0.length s.c0, .slice s.A1 s.l1.length s.c1, .int .i64 s.a2, .int .i64 s.a3, .slice s.A4 s.l4.length s.c4] 26) := ⟨_, rfl⟩
  have hbw : Below w.heap.size w W := by rw [hW]; exact (Below.refl _ _).alloc (Nat.le_refl _) _
  obtain ⟨b, hbe⟩ : ∃ b, b = w.heap.size := ⟨_, rfl⟩
  have hX : BoxS W b s := by rw [hW, hbe]; exact box_new w s
  have HX := Lib.hid (And.intro hbw (And.intro hX (h.below hbw)))
  have HS := Lib.hid (And.intro hS (And.intro hb (And.intro hbl (Kd.C_below hl hbw))))
  have l25 := ShM.l25 hS
  have l25i : (s.l4.length : Int) ≤ 25 := by omega
  clear hX hbw h hl hS hb l25
  go_enter Tryd.func38, Tryd.ntmps38
  go_upto_region 1 with fail
  rw [← hW, ← hbe]
  clear hW hbe
  go_wp2_with fail
  go_loopw [5, 6] (fun v5 i wr => ∃ (j : Nat) (A : Option Addr) (n c : Nat), j ≤ s.l4.length ∧ i = .int .i64 j ∧ v5 = .slice A n c ∧ Hid (n = j ∧ wr.ownsRow W.heap.size 2 1 (.slice A n c) n (nums .i64 (numL s l j)) ∧ Below W.heap.size W wr)) (fun _ i _ => 60 - (intOf i).toNat)
  case atStart => exact ⟨0, none, 0, 0, Nat.zero_le _, rfl, rfl, Lib.hid ⟨rfl, ⟨rfl, .inl ⟨rfl, rfl⟩⟩, Below.refl _ _⟩⟩
  case round =>
    obtain ⟨j, A, n, c, hj, rfl, rfl, HJ⟩ := hrel
    have hX := HX.out.2.1.below HJ.out.2.2
    have x4 := hX.c4
    clear hX
    by_cases hlt : j < s.l4.length
    · obtain ⟨a5, e4, hg1, hg2⟩ := at_rg (Kd.C_below HX.out.2.2.r4 HJ.out.2.2) hlt
      have hlti : (j : Int) < (s.l4.length : Int) := by omega
      have j0 : (0 : Int) ≤ (j : Int) := by omega
      have j25 : (j : Int) < 25 := by omega
      have HJ3 := Lib.hid (by omega : j < s.l4.length ∧ j < 25)
      rw [e4] at x4
      clear e4
      obtain ⟨g1, hgg1⟩ : ∃ g, g = (rgAt (s.l4.map pr) j).1 := ⟨_, rfl⟩
      obtain ⟨g2, hgg2⟩ : ∃ g, g = (rgAt (s.l4.map pr) j).2 := ⟨_, rfl⟩
      have hok : 0 ≤ g1 ∧ g1 ≤ g2 ∧ g2 ≤ 1000 := by
        have := HS.out.1.hc j (by rw [ShM.len4]; exact hlt)
        rw [hgg1, hgg2]; exact this
      rw [← hgg1] at hg1
      rw [← hgg2] at hg2
      obtain ⟨wa, hwa⟩ : ∃ wa, wa = wr.alloc (.cells #[.int .i64 g1, .int .i64 g2] 24) := ⟨_, rfl⟩
      have hba : Below wr.heap.size wr wa := by rw [hwa]; exact (Below.refl _ _).alloc (Nat.le_refl _) _
      have y0 : wa.cell? ⟨wr.heap.size, 0, none⟩ = some (.int .i64 g1) := by rw [hwa]; simp [go_sem]
      have y1 : wa.cell? ⟨wr.heap.size, 1, none⟩ = some (.int .i64 g2) := by rw [hwa]; simp [go_sem]
      have HBA := Lib.hid hba
      by_cases hg : (l.length : Int) > 0
      · obtain ⟨q, hq⟩ : ∃ q, q = j % l.length := ⟨_, rfl⟩
        have hql : q < l.length := by rw [hq]; exact Nat.mod_lt j (by omega)
        have hmd : Int.tmod (j : Int) (l.length : Int) = (q : Int) := by rw [hq]; exact (Int.ofNat_tmod _ _).symm
        have hqi : (q : Int) < (l.length : Int) := by omega
        have q0 : (0 : Int) ≤ (q : Int) := by omega
        have qb : (q : Int) < 1000000 := by have := HS.out.2.2.1; omega
        have hqw : IntKind.i64.wrap (q : Int) = (q : Int) := IntWalk.i64_in _ (by omega)
        have hl0 : ¬ l = [] := by rintro rfl; simp at hg
        obtain ⟨ad1, hA1, hv0⟩ := at_u16 (Kd.C_below HS.out.2.2.2 HJ.out.2.2) hql
        subst hA1
        obtain ⟨bb, hbb⟩ : ∃ bb, bb = rd l (q : Int) := ⟨_, rfl⟩
        have hb16 : 0 ≤ bb ∧ bb ≤ 65535 := by rw [hbb]; exact rd_in HS.out.2.1 (by omega) _
        rw [← hbb] at hv0
        have hv := (hba.cell (cell_size hv0)).trans hv0
        have e8 : IntKind.i64.wrap bb = bb := IntWalk.i64_in _ (by omega)
        have e13 : IntKind.i64.wrap (g2 - g1) = g2 - g1 := IntWalk.i64_in _ (by omega)
        have e14' : IntKind.i64.wrap (g2 - g1 + 1) = g2 - g1 + 1 := IntWalk.i64_in _ (by omega)
        have t0 : 0 ≤ Int.tmod bb (g2 - g1 + 1) := Int.tmod_nonneg _ hb16.1
        have t1 : Int.tmod bb (g2 - g1 + 1) < g2 - g1 + 1 := Int.tmod_lt_of_pos _ (by omega)
        obtain ⟨d, hd⟩ : ∃ d, d = g2 - g1 + 1 := ⟨_, rfl⟩
        obtain ⟨tm, htm⟩ : ∃ tm, tm = Int.tmod bb d := ⟨_, rfl⟩
        rw [← hd, ← htm] at t0 t1
        have e15 : IntKind.i64.wrap tm = tm := IntWalk.i64_in _ (by omega)
        obtain ⟨y, hy⟩ : ∃ y, y = g1 + tm := ⟨_, rfl⟩
        have e16 : IntKind.i64.wrap (g1 + tm) = y := by rw [hy]; exact IntWalk.i64_in _ (by omega)
        have hd0 : ¬ (d = 0) := by omega
        have HY : Hid (y = numC s l j) := Lib.hid (by
          unfold numC numV
          rw [show decide (0 < l.length) = true from by simp; omega, if_pos rfl, ← hq, ← hbb, hy, htm, hd]
          show g1 + Int.tmod bb (g2 - g1 + 1) = (rgAt (s.l4.map pr) j).1 + Int.tmod bb ((rgAt (s.l4.map pr) j).2 - (rgAt (s.l4.map pr) j).1 + 1)
          rw [← hgg1, ← hgg2])
        have e14 : IntKind.i64.wrap (g2 - g1 + 1) = d := e14'.trans hd.symm
        clear e14'
        have f15 : Int.tmod bb d = tm := htm.symm
        clear hgg1 hgg2 hok hq hql hbb hb16 t0 t1 hv0 hba qb hy hd htm
        go_upto_region 8 with fail
        rw [← hwa]
        clear hwa hg1 hg2
        have hS : Below wa.heap.size wa wa.drew := (Below.refl _ _).drew
        refine wp_region_held_list (k := 18) rfl (fun w' => Below wa.heap.size wa w') (by kernel_rfl) ?_
        generalize wa.drew = W0 at hS ⊢
        refine tk 0 (.int .i64 g1) rfl (fun w' hw' => by go_simp) hS ?_
        refine tk 1 (.slice (some ad1) l.length c1) rfl (fun w' hw' => by go_simp) hS ?_
        refine tk 2 (.int .i64 j) rfl (fun w' hw' => by go_simp) hS ?_
        refine tk 3 (.slice (some ad1) l.length c1) rfl (fun w' hw' => by go_simp) hS ?_
        (try simp only [Act.put, List.setIfInBounds_toArray, List.set_cons_zero, List.set_cons_succ])
        refine tk 4 (.int .i64 l.length) rfl (fun w' hw' => by go_simp) hS ?_
        refine tk 5 (.int .i64 q) rfl (fun w' hw' => by go_simp) hS ?_
        refine tk 6 (.pointer (some (ad1.add q))) rfl (fun w' hw' => by go_simp) hS ?_
        refine tk 7 (.int .u16 bb) rfl (fun w' hw' => by have z := held_now hw' hv; go_simp) hS ?_
        (try simp only [Act.put, List.setIfInBounds_toArray, List.set_cons_zero, List.set_cons_succ])
        refine tk 8 (.int .i64 bb) rfl (fun w' hw' => by go_simp) hS ?_
        refine tk 9 (.pointer (some ⟨wr.heap.size, 1, none⟩)) rfl (fun w' hw' => by go_simp) hS ?_
        refine tk 10 (.int .i64 g2) rfl (fun w' hw' => by have z := held_now hw' y1; go_simp) hS ?_
        refine tk 11 (.pointer (some ⟨wr.heap.size, 0, none⟩)) rfl (fun w' hw' => by go_simp) hS ?_
        (try simp only [Act.put, List.setIfInBounds_toArray, List.set_cons_zero, List.set_cons_succ])
        refine tk 12 (.int .i64 g1) rfl (fun w' hw' => by have z := held_now hw' y0; go_simp) hS ?_
        refine tk 13 (.int .i64 (g2 - g1)) rfl (fun w' hw' => by go_simp) hS ?_
        refine tk 14 (.int .i64 d) rfl (fun w' hw' => by go_simp) hS ?_
        refine tk 15 (.int .i64 tm) rfl (fun w' hw' => by go_simp) hS ?_
        (try simp only [Act.put, List.setIfInBounds_toArray, List.set_cons_zero, List.set_cons_succ])
        refine tk 16 (.int .i64 y) rfl (fun w' hw' => by go_simp) hS ?_
        refine tk 17 (.int .i64 y) rfl (fun w' hw' => by go_simp) hS ?_
        refine wpAnyH_done (by kernel_rfl) ?_ _
        have HBX : Hid (Below wr.heap.size wr W0) := Lib.hid (HBA.out.trans (hS.mono HBA.out.size))
        clear hS y0 y1 hv x4
        obtain ⟨W7, hW7⟩ : ∃ W7, W7 = W0.alloc (.cells #[.int .i64 y] 2) := ⟨_, rfl⟩
        have hb7 : Below W0.heap.size W0 W7 := by rw [hW7]; exact (Below.refl _ _).alloc (Nat.le_refl _) _
        have hj7 : W7.heap[W0.heap.size]? = some (.cells #[.int .i64 y] 2 (0, 0)) := by rw [hW7]; exact heap_alloc_last _ _
        have hx7 : Below wr.heap.size wr W7 := HBX.out.trans (hb7.mono HBX.out.size)
        have H7 := Lib.hid (And.intro (pw_own_below HJ.out.2.1 hx7) (And.intro hj7 (HJ.out.2.2.trans (hx7.mono HJ.out.2.2.size))))
        clear hb7 hj7 hx7
        go_wp2_with (first | (at_builtin; rw [← hW7]; refine wpList_push_64 rfl (.tmp 43) (.tmp 45) rfl W.heap.size A c (numL s l j) y rfl H7.out.1 W0.heap.size rfl H7.out.2.1 (by rw [numL_length]; have := HJ3.out; omega) H7.out.2.2.size ?_; intro A' c' W8 hown' hg'; have H8 := Lib.hid (And.intro hown' hg'); clear hown' hg' hW7))
        go_roundw
        case rel => exact ⟨j + 1, A', n + 1, c', by have := HJ3.out; omega, by go_num, rfl, Lib.hid ⟨by rw [HJ.out.1], by rw [numL_succ, ← HY.out]; exact H8.out.1, H7.out.2.2.grown H8.out.2 H7.out.2.2.size fun k e => own_from' H7.out.1 e⟩⟩
        case measure => simp [intOf]; have := HJ3.out; omega
      · have HY : Hid (g1 = numC s l j) := Lib.hid (by
          unfold numC numV
          rw [show decide (0 < l.length) = false from decide_eq_false (by omega)]
          exact hgg1)
        have HBX := HBA
        clear hgg1 hgg2 hok hba
        go_upto_region 9 with fail
        rw [← hwa]
        clear hwa hg1 hg2 y0 y1 x4
        obtain ⟨W7, hW7⟩ : ∃ W7, W7 = wa.alloc (.cells #[.int .i64 g1] 2) := ⟨_, rfl⟩
        have hb7 : Below wa.heap.size wa W7 := by rw [hW7]; exact (Below.refl _ _).alloc (Nat.le_refl _) _
        have hj7 : W7.heap[wa.heap.size]? = some (.cells #[.int .i64 g1] 2 (0, 0)) := by rw [hW7]; exact heap_alloc_last _ _
        have hx7 : Below wr.heap.size wr W7 := HBX.out.trans (hb7.mono HBX.out.size)
        have H7 := Lib.hid (And.intro (pw_own_below HJ.out.2.1 hx7) (And.intro hj7 (HJ.out.2.2.trans (hx7.mono HJ.out.2.2.size))))
        clear hb7 hj7 hx7
        go_wp2_with (first | (at_builtin; rw [← hW7]; refine wpList_push_64 rfl (.tmp 43) (.tmp 45) rfl W.heap.size A c (numL s l j) g1 rfl H7.out.1 wa.heap.size rfl H7.out.2.1 (by rw [numL_length]; have := HJ3.out; omega) H7.out.2.2.size ?_; intro A' c' W8 hown' hg'; have H8 := Lib.hid (And.intro hown' hg'); clear hown' hg' hW7))
        go_roundw
        case rel => exact ⟨j + 1, A', n + 1, c', by have := HJ3.out; omega, by go_num, rfl, Lib.hid ⟨by rw [HJ.out.1], by rw [numL_succ, ← HY.out]; exact H8.out.1, H7.out.2.2.grown H8.out.2 H7.out.2.2.size fun k e => own_from' H7.out.1 e⟩⟩
        case measure => simp [intOf]; have := HJ3.out; omega
    · obtain rfl : j = s.l4.length := by omega
      have hnlt : ¬ ((s.l4.length : Int) < (s.l4.length : Int)) := by omega
      obtain ⟨A', c', e7, hc7, -, hr7⟩ := own_out HJ.out.2.1
      have HE7 := Lib.hid e7
      clear e7
      go_wp2_with fail
      refine bodyPost_ret (results_tmp (t := 4) rfl _ _ _) rfl ?_
      exact ⟨A', c', congrArg Ending.returned HE7.out, hc7, Kd.C_of_reads (d := (0 : Int)) (h1 := fun _ => rfl) hr7, HX.out.1.trans (HJ.out.2.2.mono HX.out.1.size)⟩
end Go.Proofs.YtcbhnhoicecnnaaDoor.Hand
namespace Go.Proofs.YtcbhnhoicecnnaaDoor.PrK
open Go.RowKit Go.Proofs.YtcbhnhoicecnnaaDoorW.PrintWords Go.Proofs.YtcbhnhoicecnnaaDoorW.PrintLast Go.Proofs.YtcbhnhoicecnnaaDoorW.PrintMore Go.Proofs.YtcbhnhoicecnnaaDoor.Hand
attribute [local go_sem] max2_int min2_int max_two min_two max_three min_three max_four min_four
set_option linter.unusedVariables false
set_option linter.unusedSimpArgs false
def peaveylaw11_given.l0 : Nat → List Int → List Int → Int → List (S24) → List (S24) → Int → Int → List (S24) → Option (List Int)
  | 0, _, _, _, _, _, _, _, _ => none
  | k + 1, x1, x5, x6, x249000, x249001, x249002, x249003, x249004 => if x6 < (wrap64 ((wrap64 ((x249000.length : Int) + (x249001.length : Int))) + 1)) then (if (x1.length : Int) > 0 then (if (x1.length : Int) = 0 then (none) else (if 0 ≤ (Int.tmod x6 (x1.length : Int)) then (if (Int.tmod x6 (x1.length : Int)) < (x1.length : Int) then (if x5.length < 17592186044416 then (peaveylaw11_given.l0 k x1 (x5 ++ [wrap64 ((Int.tmod (wrap64 (rd x1 (Int.tmod x6 (x1.length : Int)))) 3) - 1)]) (wrap64 (x6 + 1)) x249000 x249001 x249002 x249003 x249004) else (none)) else (none)) else (none))) else (if x5.length < 17592186044416 then (peaveylaw11_given.l0 k x1 (x5 ++ [0]) (wrap64 (x6 + 1)) x249000 x249001 x249002 x249003 x249004) else (none))) else (some x5)
def peaveylaw11_given.f (k : Nat) (l0_0 : List (S24)) (l0_1 : List (S24)) (a0_2 : Int) (a0_3 : Int) (l0_4 : List (S24)) (l1 : List Int) : Option (List Int) := peaveylaw11_given.l0 k l1 ([] : List Int) 0 l0_0 l0_1 a0_2 a0_3 l0_4
set_option maxHeartbeats 8000000 in
set_option maxRecDepth 100000 in
theorem peaveylaw11_given.calls (k : Nat) (A0_0 : Option Addr) (c0_0 : Nat) (l0_0 : List (S24)) (A0_1 : Option Addr) (c0_1 : Nat) (l0_1 : List (S24)) (a0_2 : Int) (a0_3 : Int) (A0_4 : Option Addr) (c0_4 : Nat) (l0_4 : List (S24)) (A1 : Option Addr) (c1 : Nat) (l1 : List Int) (r : List Int) (w : World) (hr0_0 : Kd.C k24 w A0_0 l0_0.length l0_0) (hc0_0 : l0_0.length ≤ c0_0) (hr0_1 : Kd.C k24 w A0_1 l0_1.length l0_1) (hc0_1 : l0_1.length ≤ c0_1) (hr0_4 : Kd.C k24 w A0_4 l0_4.length l0_4) (hc0_4 : l0_4.length ≤ c0_4) (hr1 : Kd.C (Kd.int .u8) w A1 l1.length l1) (hc1 : l1.length ≤ c1) (h : peaveylaw11_given.f k l0_0 l0_1 a0_2 a0_3 l0_4 l1 = some r) :
    Calls Tryd.prog 39 #[.agg #[.slice A0_0 l0_0.length c0_0, .slice A0_1 l0_1.length c0_1, .int .i64 a0_2, .int .i64 a0_3, .slice A0_4 l0_4.length c0_4], .slice A1 l1.length c1] w fun e w' => ∃ v0_ : Value, e = .returned (v0_) ∧ Kd.R (Kd.int .i64) 3 w' w.heap.size (fun _ => True) v0_ r ∧ Below w.heap.size w w' := by
  have hu26 := Tryd.underlying26
  have HR0_0 := Aside0.mk hr0_0
  have HC0_0 := Aside0.mk hc0_0
  clear hr0_0 hc0_0
  have HR0_1 := Aside0.mk hr0_1
  have HC0_1 := Aside0.mk hc0_1
  clear hr0_1 hc0_1
  have HR0_4 := Aside0.mk hr0_4
  have HC0_4 := Aside0.mk hc0_4
  clear hr0_4 hc0_4
  have HR1 := Aside0.mk hr1
  have HC1 := Aside0.mk hc1
  clear hr1 hc1
  have HB := Aside0.mk (Below.refl w.heap.size w)
  have H : (peaveylaw11_given.l0 k l1 ([] : List Int) 0 l0_0 l0_1 a0_2 a0_3 l0_4) = some r := h
  clear h
  have H' := Aside0.mk H
  clear H
  go_enter Tryd.func39, Tryd.ntmps39
  go_wp2_with (first | ((with_reducible refine gate_dst (N := 2) rfl ?_); refine box_event ?hg (N := 2) ?hd (cs := #[.slice A0_0 l0_0.length c0_0, .slice A0_1 l0_1.length c0_1, .int .i64 a0_2, .int .i64 a0_3, .slice A0_4 l0_4.length c0_4]) (t := 26) ?hr ?_; (case hd => rfl); (case hg => rfl); (case hr => first | (go_simp; done) | (go_simp; rfl)); intro gb248 hg w3 hbox hb; have n0_ := Aside0.mk (below_step (by repeat (first | (with_reducible first | exact HB.out | apply below_alloc | apply pw_below_drewN | apply below_drew1) | exact HB.out)) hb); have n1_ := Aside0.mk (hbox); have n2_ := Aside0.mk ((by rw [hg]; exact (below_size (by repeat (first | (with_reducible first | exact HB.out | apply below_alloc | apply pw_below_drewN | apply below_drew1) | exact HB.out))) : w.heap.size ≤ gb248)); have n3_ := Aside0.mk ((by rw [hg]; exact (below_size (by repeat (first | (with_reducible first | exact HB.out | apply below_alloc | apply pw_below_drewN | apply below_drew1) | exact HB.out))) : w.heap.size ≤ gb248)); clear HB; have HB := n0_; have BK248 := n1_; have GW248 := n2_; have GE248 := n3_; clear n0_ n1_ n2_ n3_; clear hb hbox hg))
  go_loopg [5, 6] k (fun kq v5 v6 w' => ∃ (x5_1 : List Int) (x6_1 : Int), v6 = .int .i64 x6_1 ∧ Aside0 (peaveylaw11_given.l0 kq l1 x5_1 x6_1 l0_0 l0_1 a0_2 a0_3 l0_4 = some r) ∧ Aside0 (kq ≤ k) ∧ Aside0 (Kd.R (Kd.int .i64) 3 w' w.heap.size (fun _ => True) v5 x5_1) ∧ Aside0 (w'.heap[gb248]? = some (.cells #[(.slice A0_0 l0_0.length c0_0), (.slice A0_1 l0_1.length c0_1), .int .i64 a0_2, .int .i64 a0_3, (.slice A0_4 l0_4.length c0_4)] 26 (0, 0))) ∧ Aside0 (Below w.heap.size w w'))
  case atStart => exact ⟨(([] : List Int)), (0), (by first | rfl | (simp; done) | (simp [*]; done)), H', ⟨Nat.le_refl _⟩, ⟨by first | exact Kd.R_nil _ _ _ _ _ | exact Kd.N_nil _ _ _ _ _ | exact Kd.V_nil _ _ _ _ _ | exact Kd.Q_nil _ _ _ _ _ | exact Kd.S_nil _ _ _ _ _⟩, ⟨by (with_reducible repeat (first | refine blk_drewN ?_ _ | refine blk_drew ?_ | refine blk_alloc ?_ _)); exact BK248.out⟩, ⟨by repeat (first | (with_reducible first | exact HB.out | apply below_alloc | apply pw_below_drewN | apply below_drew1 | refine below_set ?_ GE248.out) | exact HB.out)⟩⟩
  case round =>
    clear H'
    try clear c1
    try clear p2
    try clear c3
    obtain ⟨x5_1, x6_1, rfl, HA, HK1, HO_5, BK248, HB⟩ := hrel
    cases gk with
    | zero => exact absurd HA.out (by simp [peaveylaw11_given.l0])
    | succ k1 =>
      have H := HA.out
      clear HA
      simp only [peaveylaw11_given.l0] at H
      by_cases c4 : x6_1 < (wrap64 ((wrap64 ((l0_0.length : Int) + (l0_1.length : Int))) + 1))
      · rw [if_pos c4] at H
        have c4b0 : decide (x6_1 < (wrap64 ((wrap64 ((l0_0.length : Int) + (l0_1.length : Int))) + 1))) = true := decide_eq_true c4
        clear c4
        by_cases c5 : (l1.length : Int) > 0
        · rw [if_pos c5] at H
          have c5b0 : decide (0 < (l1.length : Int)) = true := decide_eq_true c5
          have c5b1 : decide (0 < l1.length) = true := decide_eq_true (by omega)
          clear c5
          by_cases c6 : (l1.length : Int) = 0
          · rw [if_pos c6] at H
            exact absurd H (by simp)
          · rw [if_neg c6] at H
            have c6b0 : ((l1.length : Int) == 0) = false := beq_eq_false_iff_ne.mpr c6
            have c6b1 : ((l1.length : Int) != 0) = true := bne_iff_ne.mpr c6
            have c6b2 : ¬ (l1 = []) := fun h_ => c6 (by rw [h_]; rfl)
            obtain ⟨ji7, hji7⟩ : ∃ j_ : Int, (Int.tmod x6_1 (l1.length : Int)) = j_ := ⟨_, rfl⟩
            replace H : (if 0 ≤ (ji7) then (if (ji7) < (l1.length : Int) then (if x5_1.length < 17592186044416 then (peaveylaw11_given.l0 k1 l1 (x5_1 ++ [wrap64 ((Int.tmod (wrap64 (rd l1 (ji7))) 3) - 1)]) (wrap64 (x6_1 + 1)) l0_0 l0_1 a0_2 a0_3 l0_4) else (none)) else (none)) else (none)) = some r := by first | (rw [hji7] at H; exact H) | (simp only [hji7] at H ⊢; exact H)
            by_cases c8 : 0 ≤ (ji7)
            · rw [if_pos c8] at H
              have c8b0 : decide (0 ≤ (ji7)) = true := decide_eq_true c8
              clear c8
              by_cases c9 : (ji7) < (l1.length : Int)
              · rw [if_pos c9] at H
                have c9b0 : decide ((ji7) < (l1.length : Int)) = true := decide_eq_true c9
                clear c9
                by_cases c10 : x5_1.length < 17592186044416
                · rw [if_pos c10] at H
                  have LMc10 := Aside0.mk c10
                  clear c10
                  obtain ⟨y250, hy250⟩ : ∃ y_ : List Int, y_ = (x5_1 ++ [wrap64 ((Int.tmod (wrap64 (rd l1 (ji7))) 3) - 1)]) := ⟨_, rfl⟩
                  replace H : (peaveylaw11_given.l0 k1 l1 y250 (wrap64 (x6_1 + 1)) l0_0 l0_1 a0_2 a0_3 l0_4) = some r := by first | (rw [hy250]; with_reducible exact H) | (have H2_ := (Option.bind_some _ _).symm.trans H; rw [hy250]; with_reducible exact H2_) | (have H2_ := (Option.bind_some _ _).symm.trans H; with_reducible exact H2_) | with_reducible exact H | (rw [hy250]; exact H) | exact H
                  have Ny250 := Aside0.mk hy250
                  clear hy250
                  have H' := Aside0.mk H
                  clear H
                  have hcz11_0 : wr.cell? ⟨gb248, 0, none⟩ = some (.slice A0_0 l0_0.length c0_0) := (blk_cell BK248.out 0).trans rfl
                  have hcz11_1 : wr.cell? ⟨gb248, 1, none⟩ = some (.slice A0_1 l0_1.length c0_1) := (blk_cell BK248.out 1).trans rfl
                  have hcz11_2 : wr.cell? ⟨gb248, 2, none⟩ = some (.int .i64 a0_2) := (blk_cell BK248.out 2).trans rfl
                  have hcz11_3 : wr.cell? ⟨gb248, 3, none⟩ = some (.int .i64 a0_3) := (blk_cell BK248.out 3).trans rfl
                  have hcz11_4 : wr.cell? ⟨gb248, 4, none⟩ = some (.slice A0_4 l0_4.length c0_4) := (blk_cell BK248.out 4).trans rfl
                  have hfz11_0 := blk_frozen BK248.out 0
                  have hfz11_1 := blk_frozen BK248.out 1
                  have hfz11_2 := blk_frozen BK248.out 2
                  have hfz11_3 := blk_frozen BK248.out 3
                  have hfz11_4 := blk_frozen BK248.out 4
                  have p249 : 0 ≤ ((ji7) : Int) := of_decide_eq_true (by first | (with_reducible assumption) | assumption)
                  have q249 : (ji7) < (l1.length : Int) := of_decide_eq_true (by first | (with_reducible assumption) | assumption)
                  obtain ⟨ad249, e249, hx249_0⟩ := Kd.at_int HR1.out (ji7) p249 q249
                  cases e249
                  replace hx249_0 := (HB.out.cell (World.block_lt_of_cell? w _ hx249_0)).trans hx249_0
                  replace p249 := eq_true p249
                  replace q249 := eq_true q249
                  go_wp2_with (first | ((with_reducible refine gate_builtin (b := .append) (xs := #[.tmp 33, .tmp 35]) rfl ?_); at_builtin; refine Kd.R_append (Kd.int .i64) (w0 := w) w.heap.size rfl (.tmp 33) (.tmp 35) 35 3 (.int .i64 0) 8 rfl Tryd.underlying35 info3 rfl (by decide) (by omega) u5 x5_1 (wrap64 ((Int.tmod (wrap64 (rd l1 (ji7))) 3) - 1)) [.int .i64 (wrap64 ((Int.tmod (wrap64 (rd l1 (ji7))) 3) - 1))] (fun _ => True) (fun _ => False) rfl rfl ?aP (fun _ hk => hk.elim) ?aF ?aO ?aB ?aS ?aL ?_; (case aP => exact rfl); (case aB => exact (by repeat (first | (with_reducible first | exact HB.out | apply below_alloc | apply pw_below_drewN | apply below_drew1 | refine below_set ?_ GE248.out) | exact HB.out))); (case aF => exact (fun _ _ => trivial)); (case aO => exact (by (with_reducible repeat (first | apply Kd.R_alloc | apply Kd.R_drewN | apply Kd.R_drew)); exact HO_5.out)); (case aS => exact (below_size (by repeat (first | (with_reducible first | exact HB.out | apply below_alloc | apply pw_below_drewN | apply below_drew1 | refine below_set ?_ GE248.out) | exact HB.out)))); (case aL => have := LMc10.out; omega); intro v251 w12 ho hb hg hat; rw [← Ny250.out] at ho; have n0_ := Aside0.mk (blk_grown (g := gb248) (o := .cells #[.slice A0_0 l0_0.length c0_0, .slice A0_1 l0_1.length c0_1, .int .i64 a0_2, .int .i64 a0_3, .slice A0_4 l0_4.length c0_4] 26 (0, 0)) (by (with_reducible repeat (first | refine blk_drewN ?_ _ | refine blk_drew ?_ | refine blk_alloc ?_ _)); exact BK248.out) hg (Kd.R_ne HO_5.out BK248.out (by decide))); have n1_ := Aside0.mk (hb); have n2_ := Aside0.mk (ho); clear BK248; clear HB; clear HO_5; have BK248 := n0_; have HB := n1_; have HO252 := n2_; clear n0_ n1_ n2_; clear ho hb hg hat))
                  go_roundg k1
                  case measure => have := HK1.out; omega
                  case rel => exact ⟨(y250), (wrap64 (x6_1 + 1)), (by first | rfl | (simp; done) | (simp [*]; done)), H', ⟨by have := HK1.out; omega⟩, ⟨by (with_reducible repeat (first | apply Kd.R_alloc | apply Kd.R_drewN | apply Kd.R_drew)); exact HO252.out⟩, ⟨by (with_reducible repeat (first | refine blk_drewN ?_ _ | refine blk_drew ?_ | refine blk_alloc ?_ _)); exact BK248.out⟩, ⟨by repeat (first | (with_reducible first | exact HB.out | apply below_alloc | apply pw_below_drewN | apply below_drew1 | refine below_set ?_ GE248.out) | exact HB.out)⟩⟩
                · rw [if_neg c10] at H
                  exact absurd H (by simp)
              · rw [if_neg c9] at H
                exact absurd H (by simp)
            · rw [if_neg c8] at H
              exact absurd H (by simp)
        · rw [if_neg c5] at H
          have c5b0 : decide (0 < (l1.length : Int)) = false := decide_eq_false c5
          have c5b1 : decide (0 < l1.length) = false := decide_eq_false (by omega)
          clear c5
          by_cases c13 : x5_1.length < 17592186044416
          · rw [if_pos c13] at H
            have LMc13 := Aside0.mk c13
            clear c13
            obtain ⟨y253, hy253⟩ : ∃ y_ : List Int, y_ = (x5_1 ++ [0]) := ⟨_, rfl⟩
            replace H : (peaveylaw11_given.l0 k1 l1 y253 (wrap64 (x6_1 + 1)) l0_0 l0_1 a0_2 a0_3 l0_4) = some r := by first | (rw [hy253]; with_reducible exact H) | (have H2_ := (Option.bind_some _ _).symm.trans H; rw [hy253]; with_reducible exact H2_) | (have H2_ := (Option.bind_some _ _).symm.trans H; with_reducible exact H2_) | with_reducible exact H | (rw [hy253]; exact H) | exact H
            have Ny253 := Aside0.mk hy253
            clear hy253
            have H' := Aside0.mk H
            clear H
            have hcz14_0 : wr.cell? ⟨gb248, 0, none⟩ = some (.slice A0_0 l0_0.length c0_0) := (blk_cell BK248.out 0).trans rfl
            have hcz14_1 : wr.cell? ⟨gb248, 1, none⟩ = some (.slice A0_1 l0_1.length c0_1) := (blk_cell BK248.out 1).trans rfl
            have hcz14_2 : wr.cell? ⟨gb248, 2, none⟩ = some (.int .i64 a0_2) := (blk_cell BK248.out 2).trans rfl
            have hcz14_3 : wr.cell? ⟨gb248, 3, none⟩ = some (.int .i64 a0_3) := (blk_cell BK248.out 3).trans rfl
            have hcz14_4 : wr.cell? ⟨gb248, 4, none⟩ = some (.slice A0_4 l0_4.length c0_4) := (blk_cell BK248.out 4).trans rfl
            have hfz14_0 := blk_frozen BK248.out 0
            have hfz14_1 := blk_frozen BK248.out 1
            have hfz14_2 := blk_frozen BK248.out 2
            have hfz14_3 := blk_frozen BK248.out 3
            have hfz14_4 := blk_frozen BK248.out 4
            go_wp2_with (first | ((with_reducible refine gate_builtin (b := .append) (xs := #[.tmp 33, .tmp 35]) rfl ?_); at_builtin; refine Kd.R_append (Kd.int .i64) (w0 := w) w.heap.size rfl (.tmp 33) (.tmp 35) 35 3 (.int .i64 0) 8 rfl Tryd.underlying35 info3 rfl (by decide) (by omega) u5 x5_1 0 [.int .i64 0] (fun _ => True) (fun _ => False) rfl rfl ?aP (fun _ hk => hk.elim) ?aF ?aO ?aB ?aS ?aL ?_; (case aP => exact rfl); (case aB => exact (by repeat (first | (with_reducible first | exact HB.out | apply below_alloc | apply pw_below_drewN | apply below_drew1 | refine below_set ?_ GE248.out) | exact HB.out))); (case aF => exact (fun _ _ => trivial)); (case aO => exact (by (with_reducible repeat (first | apply Kd.R_alloc | apply Kd.R_drewN | apply Kd.R_drew)); exact HO_5.out)); (case aS => exact (below_size (by repeat (first | (with_reducible first | exact HB.out | apply below_alloc | apply pw_below_drewN | apply below_drew1 | refine below_set ?_ GE248.out) | exact HB.out)))); (case aL => have := LMc13.out; omega); intro v254 w15 ho hb hg hat; rw [← Ny253.out] at ho; have n0_ := Aside0.mk (blk_grown (g := gb248) (o := .cells #[.slice A0_0 l0_0.length c0_0, .slice A0_1 l0_1.length c0_1, .int .i64 a0_2, .int .i64 a0_3, .slice A0_4 l0_4.length c0_4] 26 (0, 0)) (by (with_reducible repeat (first | refine blk_drewN ?_ _ | refine blk_drew ?_ | refine blk_alloc ?_ _)); exact BK248.out) hg (Kd.R_ne HO_5.out BK248.out (by decide))); have n1_ := Aside0.mk (hb); have n2_ := Aside0.mk (ho); clear BK248; clear HB; clear HO_5; have BK248 := n0_; have HB := n1_; have HO255 := n2_; clear n0_ n1_ n2_; clear ho hb hg hat))
            go_roundg k1
            case measure => have := HK1.out; omega
            case rel => exact ⟨(y253), (wrap64 (x6_1 + 1)), (by first | rfl | (simp; done) | (simp [*]; done)), H', ⟨by have := HK1.out; omega⟩, ⟨by (with_reducible repeat (first | apply Kd.R_alloc | apply Kd.R_drewN | apply Kd.R_drew)); exact HO255.out⟩, ⟨by (with_reducible repeat (first | refine blk_drewN ?_ _ | refine blk_drew ?_ | refine blk_alloc ?_ _)); exact BK248.out⟩, ⟨by repeat (first | (with_reducible first | exact HB.out | apply below_alloc | apply pw_below_drewN | apply below_drew1 | refine below_set ?_ GE248.out) | exact HB.out)⟩⟩
          · rw [if_neg c13] at H
            exact absurd H (by simp)
      · rw [if_neg c4] at H
        have c4b0 : decide (x6_1 < (wrap64 ((wrap64 ((l0_0.length : Int) + (l0_1.length : Int))) + 1))) = false := decide_eq_false c4
        clear c4
        obtain rfl := Option.some.inj H
        have hcz16_0 : wr.cell? ⟨gb248, 0, none⟩ = some (.slice A0_0 l0_0.length c0_0) := (blk_cell BK248.out 0).trans rfl
        have hcz16_1 : wr.cell? ⟨gb248, 1, none⟩ = some (.slice A0_1 l0_1.length c0_1) := (blk_cell BK248.out 1).trans rfl
        have hcz16_2 : wr.cell? ⟨gb248, 2, none⟩ = some (.int .i64 a0_2) := (blk_cell BK248.out 2).trans rfl
        have hcz16_3 : wr.cell? ⟨gb248, 3, none⟩ = some (.int .i64 a0_3) := (blk_cell BK248.out 3).trans rfl
        have hcz16_4 : wr.cell? ⟨gb248, 4, none⟩ = some (.slice A0_4 l0_4.length c0_4) := (blk_cell BK248.out 4).trans rfl
        have hfz16_0 := blk_frozen BK248.out 0
        have hfz16_1 := blk_frozen BK248.out 1
        have hfz16_2 := blk_frozen BK248.out 2
        have hfz16_3 := blk_frozen BK248.out 3
        have hfz16_4 := blk_frozen BK248.out 4
        go_wp2
        go_ret
        exact ⟨_, by first | rfl | (simp [errW_none, errW_some] <;> rfl) | (simp [*, errW_none, errW_some] <;> rfl), by (with_reducible repeat (first | apply Kd.R_alloc | apply Kd.R_drewN | apply Kd.R_drew)); exact HO_5.out, by repeat (first | (with_reducible first | exact HB.out | apply below_alloc | apply pw_below_drewN | apply below_drew1 | refine below_set ?_ GE248.out) | exact HB.out)⟩
end Go.Proofs.YtcbhnhoicecnnaaDoor.PrK
namespace Go.Proofs.YtcbhnhoicecnnaaDoor.Hand
set_option linter.unusedVariables false
set_option linter.unusedSimpArgs false
open Go.RowKit Go.Shelf Go.Maps Go.Proofs.YtcbhnhoicecnnaaDoorW.PrintWords Go.Proofs.YtcbhnhoicecnnaaDoorW.PrintLast Go.Proofs.YtcbhnhoicecnnaaDoorW.PrintMore Go.Proofs.YtcbhnhoicecnnaaDoor.PrK
theorem tat_push (l : List Int) (v : Int) (j : Nat) : tat (l ++ [v]) j = if j < l.length then tat l j else if j = l.length then v else 0 := by
  unfold tat
  rw [List.getD_eq_getElem?_getD, List.getD_eq_getElem?_getD]
  by_cases h : j < l.length
  · rw [if_pos h, List.getElem?_append_left h]
  · rw [if_neg h, List.getElem?_append_right (by omega)]
    by_cases h2 : j = l.length
    · rw [if_pos h2, h2, Nat.sub_self]; rfl
    · rw [if_neg h2]
      obtain ⟨d, hd⟩ : ∃ d, j - l.length = d + 1 := ⟨j - l.length - 1, by omega⟩
      rw [hd]; rfl
theorem numbers_any (s : ShM) (hS : s.Ok) (A : Option Addr) (c : Nat) (by_ : List Int) (hb : ∀ n ∈ by_, 0 ≤ n ∧ n ≤ 65535) (hbl : by_.length ≤ 1000000) : ∃ t : List Int, t.length = s.l4.length ∧ InL s.sh t ∧
    ∀ w, ShR w s → Kd.C (Kd.int .u16) w A by_.length by_ → by_.length ≤ c → Calls Tryd.prog 38 #[.agg #[.slice s.A0 s.l0.length s.c0, .slice s.A1 s.l1.length s.c1, .int .i64 s.a2, .int .i64 s.a3, .slice s.A4 s.l4.length s.c4], .slice A by_.length c] w fun e w' => ∃ A' c', e = .returned (.slice A' t.length c') ∧ t.length ≤ c' ∧ Kd.C (Kd.int .i64) w' A' t.length t ∧ Below w.heap.size w w' := by
  refine ⟨numL s by_ s.l4.length, numL_length s by_ _, ⟨by rw [ShM.len4]; exact numL_length s by_ _, fun i hi => ?_⟩, fun w h hr hc => numbers_w s hS A c by_ hb hbl w h hr hc⟩
  rw [ShM.len4] at hi
  rw [numL_at s by_ _ i hi]
  have hc := hS.hc i (by rw [ShM.len4]; exact hi)
  have h1 : 0 ≤ (rgAt s.sh.cs i).1 ∧ (rgAt s.sh.cs i).1 ≤ (rgAt s.sh.cs i).2 ∧ (rgAt s.sh.cs i).2 ≤ 1000 := hc
  unfold numC numV
  obtain ⟨bb, hbb⟩ : ∃ bb, bb = rd by_ ((i % by_.length : Nat) : Int) := ⟨_, rfl⟩
  have hb16 : 0 ≤ bb ∧ bb ≤ 65535 := by rw [hbb]; exact rd_in hb (by omega) _
  rw [← hbb]
  split
  · have q0 : 0 ≤ Int.tmod bb ((rgAt s.sh.cs i).2 - (rgAt s.sh.cs i).1 + 1) := Int.tmod_nonneg _ hb16.1
    have q1 : Int.tmod bb ((rgAt s.sh.cs i).2 - (rgAt s.sh.cs i).1 + 1) < (rgAt s.sh.cs i).2 - (rgAt s.sh.cs i).1 + 1 := Int.tmod_lt_of_pos _ (by omega)
    omega
  · omega
theorem given_l (s : ShM) (hS : s.Ok) (by_ : List Int) (hb : ∀ n ∈ by_, 0 ≤ n ∧ n ≤ 65535) (hbl : by_.length ≤ 1000000) : ∀ (k i : Nat) (out : List Int), i ≤ s.l0.length + s.l1.length + 1 → s.l0.length + s.l1.length + 1 < i + k → out.length = i →
    (∀ j, j < i → -1 ≤ tat out j ∧ tat out j ≤ 1) →
    ∃ t, peaveylaw11_given.l0 k by_ out (i : Int) s.l0 s.l1 s.a2 s.a3 s.l4 = some t ∧ t.length = s.l0.length + s.l1.length + 1 ∧ ∀ j, j < t.length → -1 ≤ tat t j ∧ tat t j ≤ 1
  | 0, i, out, h1, h2, _, _ => by omega
  | k + 1, i, out, h1, h2, ho, hin => by
    have n5 : s.l0.length ≤ 5 := by have := hS.n5; rwa [show s.sh.os.length = s.l0.length from ShM.len0 s] at this
    have m5 : s.l1.length ≤ 5 := by have := hS.m5; rwa [show s.sh.ps.length = s.l1.length from ShM.len1 s] at this
    unfold peaveylaw11_given.l0
    have w0 : wrap64 (wrap64 ((s.l0.length : Int) + (s.l1.length : Int)) + 1) = (s.l0.length : Int) + (s.l1.length : Int) + 1 := by
      rw [IntWalk.wrap64_in ((s.l0.length : Int) + (s.l1.length : Int)) ⟨by omega, by omega⟩]
      exact IntWalk.wrap64_in _ ⟨by omega, by omega⟩
    rw [w0]
    by_cases hlt : (i : Int) < (s.l0.length : Int) + (s.l1.length : Int) + 1
    · rw [if_pos hlt]
      have w1 : wrap64 ((i : Int) + 1) = ((i + 1 : Nat) : Int) := IntWalk.wrap64_in _ ⟨by omega, by omega⟩
      have go : ∀ v : Int, -1 ≤ v → v ≤ 1 → ∃ t, peaveylaw11_given.l0 k by_ (out ++ [v]) ((i + 1 : Nat) : Int) s.l0 s.l1 s.a2 s.a3 s.l4 = some t ∧ t.length = s.l0.length + s.l1.length + 1 ∧ ∀ j, j < t.length → -1 ≤ tat t j ∧ tat t j ≤ 1 := fun v hv1 hv2 =>
        given_l s hS by_ hb hbl k (i + 1) (out ++ [v]) (by omega) (by omega) (by simp [ho]) fun j hj => by
          rw [tat_push, ho]
          by_cases hji : j < i
          · rw [if_pos hji]; exact hin j hji
          · rw [if_neg hji, if_pos (by omega)]; exact ⟨hv1, hv2⟩
      rw [w1]
      have hout : out.length < 17592186044416 := by omega
      by_cases hg : (by_.length : Int) > 0
      · have m0 : 0 ≤ Int.tmod (i : Int) (by_.length : Int) := Int.tmod_nonneg _ (by omega)
        have m1 : Int.tmod (i : Int) (by_.length : Int) < (by_.length : Int) := Int.tmod_lt_of_pos _ hg
        obtain ⟨b, hbe⟩ : ∃ b, b = rd by_ (Int.tmod (i : Int) (by_.length : Int)) := ⟨_, rfl⟩
        have hb2 : 0 ≤ b ∧ b ≤ 65535 := by rw [hbe]; exact rd_in hb (by omega) _
        rw [← hbe]
        have w3 : wrap64 b = b := IntWalk.wrap64_in _ ⟨by omega, by omega⟩
        have q0 : 0 ≤ Int.tmod b 3 := Int.tmod_nonneg _ hb2.1
        have q1 : Int.tmod b 3 < 3 := Int.tmod_lt_of_pos _ (by omega)
        have w4 : wrap64 (Int.tmod b 3 - 1) = Int.tmod b 3 - 1 := IntWalk.wrap64_in _ ⟨by omega, by omega⟩
        rw [if_pos hg, if_neg (by omega), if_pos m0, if_pos m1, if_pos hout, w3, w4]
        exact go _ (by omega) (by omega)
      · rw [if_neg hg, if_pos hout]
        exact go _ (by omega) (by omega)
    · rw [if_neg hlt]
      exact ⟨out, rfl, by omega, fun j hj => hin j (by omega)⟩
theorem given_any (s : ShM) (hS : s.Ok) (A : Option Addr) (c : Nat) (by_ : List Int) (hb : ∀ n ∈ by_, 0 ≤ n ∧ n ≤ 65535) (hbl : by_.length ≤ 1000000) : ∃ t : List Int, t.length = s.l0.length + s.l1.length + 1 ∧ InW3 t ∧
    ∀ w, ShR w s → Kd.C (Kd.int .u8) w A by_.length by_ → by_.length ≤ c → Calls Tryd.prog 39 #[.agg #[.slice s.A0 s.l0.length s.c0, .slice s.A1 s.l1.length s.c1, .int .i64 s.a2, .int .i64 s.a3, .slice s.A4 s.l4.length s.c4], .slice A by_.length c] w fun e w' => ∃ A' c', e = .returned (.slice A' t.length c') ∧ t.length ≤ c' ∧ Kd.C (Kd.int .i64) w' A' t.length t ∧ Below w.heap.size w w' := by
  have n5 : s.l0.length ≤ 5 := by have := hS.n5; rwa [show s.sh.os.length = s.l0.length from ShM.len0 s] at this
  have m5 : s.l1.length ≤ 5 := by have := hS.m5; rwa [show s.sh.ps.length = s.l1.length from ShM.len1 s] at this
  obtain ⟨t, h1, h2, h3⟩ := given_l s hS by_ hb hbl 100 0 [] (by omega) (by omega) rfl (fun j hj => absurd hj (Nat.not_lt_zero j))
  refine ⟨t, h2, h3, fun w h hr hc => ?_⟩
  refine (peaveylaw11_given.calls 100 s.A0 s.c0 s.l0 s.A1 s.c1 s.l1 s.a2 s.a3 s.A4 s.c4 s.l4 A c by_ t w h.r0 h.h0 h.r1 h.h1 h.r4 h.h4 hr hc h1).mono ?_
  rintro e w' ⟨v, rfl, hv, hbw⟩
  obtain ⟨A', c', rfl, hc', hr'⟩ := Kd.R_reads hv
  exact ⟨A', c', rfl, hc', hr', hbw⟩
theorem ws_ok (s : ShM) {t : List Int} (hl : t.length = s.l0.length + s.l1.length + 1) (h : InW3 t) : (wsW s.l0.length s.l1.length t).Ok s.sh :=
  ⟨fun i hi => h i (by have : i < s.l0.length := by rw [← ShM.len0 s]; exact hi
                       omega),
   fun i hi => h (s.l0.length + i) (by have : i < s.l1.length := by rw [← ShM.len1 s]; exact hi
                                       omega),
   h (s.l0.length + s.l1.length) (by omega)⟩
theorem wf_u16 {n : Int} (h : (Lit.int .u16 n).wf = true) : 0 ≤ n ∧ n ≤ 65535 := by
  have : (0 ≤ n ∧ n ≤ 65535) := by simpa [Lit.wf, IntKind.signed, IntKind.bits, IntKind.min, IntKind.max] using h
  exact this
theorem wf_u8 {n : Int} (h : (Lit.int .u8 n).wf = true) : 0 ≤ n ∧ n ≤ 65535 := by
  have : (0 ≤ n ∧ n ≤ 255) := by simpa [Lit.wf, IntKind.signed, IntKind.bits, IntKind.min, IntKind.max] using h
  omega
set_option maxHeartbeats 4000000 in
set_option maxRecDepth 100000 in
theorem either_any (s : ShM) (A1 : Option Addr) (c1 : Nat) (l1 : List Int) (A2 : Option Addr) (c2 : Nat) (l2 : List Int) (w : World) (hv : VarsAt w) (h : ShR w s) (hl1 : Kd.C (Kd.int .u16) w A1 l1.length l1) (hc1 : l1.length ≤ c1) (hw1 : ∀ n ∈ l1, (Lit.int .u16 n).wf = true) (hl2 : Kd.C (Kd.int .u8) w A2 l2.length l2) (hc2 : l2.length ≤ c2) (hw2 : ∀ n ∈ l2, (Lit.int .u8 n).wf = true) :
    Calls Tryd.prog 8 #[.agg #[.slice s.A0 s.l0.length s.c0, .slice s.A1 s.l1.length s.c1, .int .i64 s.a2, .int .i64 s.a3, .slice s.A4 s.l4.length s.c4], .slice A1 l1.length c1, .slice A2 l2.length c2] w fun e w' => e = .returned (.bool true) ∧ Below w.heap.size w w' := by
  obtain ⟨W, hW⟩ : ∃ W, W = w.alloc (.cells #[.slice s.A0 s.l0.length s.c0, .slice s.A1 s.l1.length s.c1, .int .i64 s.a2, .int .i64 s.a3, .slice s.A4 s.l4.length s.c4] 26) := ⟨_, rfl⟩
  have hb : Below w.heap.size w W := by rw [hW]; exact (Below.refl _ _).alloc (Nat.le_refl _) _
  obtain ⟨b, hbe⟩ : ∃ b, b = w.heap.size := ⟨_, rfl⟩
  have hX : BoxS W b s := by rw [hW, hbe]; exact box_new w s
  have HX := Lib.hid (And.intro hb hX)
  have HF : Hid (∀ V, Below w.heap.size w V → ∀ r : Bool, (r = true ↔ fineS s) → Calls Tryd.prog 36 #[.agg #[.slice s.A0 s.l0.length s.c0, .slice s.A1 s.l1.length s.c1, .int .i64 s.a2, .int .i64 s.a3, .slice s.A4 s.l4.length s.c4]] V fun e w' => e = .returned (.bool r) ∧ Below V.heap.size V w') := Lib.hid fun V hV => fine_any s V (h.below hV)
  have HW : Hid (∀ V, Below w.heap.size w V → Calls Tryd.prog 17 #[] V fun e w' => e = .returned (.bool true) ∧ Below V.heap.size V w') := Lib.hid fun V hV => works_any V (hv.below hV)
  have HR : Hid (∀ V, Below w.heap.size w V → ShR V s ∧ VarsAt V) := Lib.hid fun V hV => ⟨h.below hV, hv.below hV⟩
  have HA1 : Hid (∀ V, Below w.heap.size w V → Kd.C (Kd.int .u16) V A1 l1.length l1) := Lib.hid fun V hV => Kd.C_below hl1 hV
  have HA2 : Hid (∀ V, Below w.heap.size w V → Kd.C (Kd.int .u8) V A2 l2.length l2) := Lib.hid fun V hV => Kd.C_below hl2 hV
  have HL := Lib.hid (And.intro hc1 (And.intro hw1 (And.intro hc2 hw2)))
  have x0 := hX.c0
  have x1 := hX.c1
  have x2 := hX.c2
  have x3 := hX.c3
  have x4 := hX.c4
  clear hX hb h hv hl1 hl2 hc1 hc2 hw1 hw2
  go_enter Tryd.func8, Tryd.ntmps8
  go_upto_region 1 with fail
  rw [← hW, ← hbe]
  clear hW hbe
  by_cases hf : fineS s
  rotate_left
  · skip
    go_upto_region 2 with (go_at_call 36; refine (HF.out _ HX.out.1 false ⟨fun h => by simp at h, fun h => absurd h hf⟩).mono ?_; rintro e v1 ⟨rfl, h1⟩; have Hv1 := Lib.hid (HX.out.1.trans (h1.mono HX.out.1.size)); clear h1)
    clear x0 x1 x2 x3 x4
    go_wp2_with (go_at_call 17; refine (HW.out _ Hv1.out).mono ?_; rintro e v2 ⟨rfl, h1⟩; have Hv2 := Lib.hid (Hv1.out.trans (h1.mono Hv1.out.size)); clear h1)
    refine bodyPost_ret (results_tmp (t := 6) rfl _ _ _) rfl ?_
    exact ⟨rfl, Hv2.out⟩
  by_cases h40 : 40 < l1.length
  · have g40 : ((l1.length : Int) > 40) := by omega
    go_upto_region 2 with (go_at_call 36; refine (HF.out _ HX.out.1 true ⟨fun _ => hf, fun _ => rfl⟩).mono ?_; rintro e v1 ⟨rfl, h1⟩; have Hv1 := Lib.hid (HX.out.1.trans (h1.mono HX.out.1.size)); clear h1)
    clear x0 x1 x2 x3 x4
    go_wp2_with (go_at_call 17; refine (HW.out _ Hv1.out).mono ?_; rintro e v2 ⟨rfl, h1⟩; have Hv2 := Lib.hid (Hv1.out.trans (h1.mono Hv1.out.size)); clear h1)
    refine bodyPost_ret (results_tmp (t := 6) rfl _ _ _) rfl ?_
    exact ⟨rfl, Hv2.out⟩
  have g40 : ¬ ((l1.length : Int) > 40) := by omega
  by_cases h20 : 20 < l2.length
  · have g20 : ((l2.length : Int) > 20) := by omega
    go_upto_region 2 with (go_at_call 36; refine (HF.out _ HX.out.1 true ⟨fun _ => hf, fun _ => rfl⟩).mono ?_; rintro e v1 ⟨rfl, h1⟩; have Hv1 := Lib.hid (HX.out.1.trans (h1.mono HX.out.1.size)); clear h1)
    clear x0 x1 x2 x3 x4
    go_wp2_with (go_at_call 17; refine (HW.out _ Hv1.out).mono ?_; rintro e v2 ⟨rfl, h1⟩; have Hv2 := Lib.hid (Hv1.out.trans (h1.mono Hv1.out.size)); clear h1)
    refine bodyPost_ret (results_tmp (t := 6) rfl _ _ _) rfl ?_
    exact ⟨rfl, Hv2.out⟩
  have g20 : ¬ ((l2.length : Int) > 20) := by omega
  have hS := hf.2
  obtain ⟨nn, hnn⟩ : ∃ nn, nn = offS s.sh := ⟨_, rfl⟩
  have b16 : ∀ n ∈ l1, 0 ≤ n ∧ n ≤ 65535 := fun n hn => wf_u16 (HL.out.2.1 n hn)
  have b8 : ∀ n ∈ l2, 0 ≤ n ∧ n ≤ 65535 := fun n hn => wf_u8 (HL.out.2.2.2 n hn)
  obtain ⟨t3, ht3, hin3, hn3⟩ := numbers_any s hS A1 c1 l1 b16 (by omega)
  obtain ⟨t4, ht4, hin4, hn4⟩ := given_any s hS A2 c2 l2 b8 (by omega)
  obtain ⟨cc, hcc⟩ : ∃ cc, cc = wrongS s.sh (tat t3) := ⟨_, rfl⟩
  obtain ⟨dd, hdd⟩ : ∃ dd, dd = boundS s.sh (wsW s.l0.length s.l1.length t4) := ⟨_, rfl⟩
  have gc : nn ≤ cc := by rw [hnn, hcc]; exact off_le hS hin3.2
  have gd : dd ≤ nn := by rw [hnn, hdd]; exact le_off hS (ws_ok s ht4 hin4)
  have HF1 := Lib.hid (And.intro hS hnn)
  have H0 := Lib.hid fun (V : World) (hV : Below w.heap.size w V) => found_any s V (HR.out V hV).2 (HR.out V hV).1 hS nn hnn
  have H7 := Lib.hid fun (V : World) (hV : Below w.heap.size w V) => hn3 V (HR.out V hV).1 (HA1.out V hV) HL.out.1
  have H8 := Lib.hid fun (V : World) (hV : Below w.heap.size w V) => hn4 V (HR.out V hV).1 (HA2.out V hV) HL.out.2.2.1
  have H9 : Hid (∀ (V : World) (A : Option Addr) (c : Nat), Below w.heap.size w V → Kd.C (Kd.int .i64) V A t3.length t3 → t3.length ≤ c → Calls Tryd.prog 18 #[.agg #[.slice s.A0 s.l0.length s.c0, .slice s.A1 s.l1.length s.c1, .int .i64 s.a2, .int .i64 s.a3, .slice s.A4 s.l4.length s.c4], .slice A t3.length c] V (fun e w' => e = .returned (.tuple #[.int .i64 cc, .int .i64 0]) ∧ Below V.heap.size V w')) := Lib.hid fun V A c hV hA hc => wrongT_any s A c t3 V (HR.out V hV).1 hS hA hc ht3 cc 0 (.inl ⟨hin3, hcc, rfl⟩)
  have H10 : Hid (∀ (V : World) (A : Option Addr) (c : Nat), Below w.heap.size w V → Kd.C (Kd.int .i64) V A t4.length t4 → t4.length ≤ c → Calls Tryd.prog 22 #[.agg #[.slice s.A0 s.l0.length s.c0, .slice s.A1 s.l1.length s.c1, .int .i64 s.a2, .int .i64 s.a3, .slice s.A4 s.l4.length s.c4], .slice A t4.length c] V (fun e w' => e = .returned (.tuple #[.int .i64 dd, .int .i64 0]) ∧ Below V.heap.size V w')) := Lib.hid fun V A c hV hA hc => weightsT_any s A c t4 V (HR.out V hV).1 hS hA hc ht4 dd 0 (.inl ⟨hin4, hdd, rfl⟩)
  clear hS hnn hcc hdd hn3 hn4 b16 b8 hin3 hin4 ht3 ht4
  go_upto_region 3 with (go_at_call 36; refine (HF.out _ HX.out.1 true ⟨fun _ => hf, fun _ => rfl⟩).mono ?_; rintro e v1 ⟨rfl, h1⟩; have Hv1 := Lib.hid h1; clear h1)
  clear x0 x1 x2 x3 x4 hf
  replace HX := Lib.hid (And.intro (HX.out.1.trans (Hv1.out.mono HX.out.1.size)) (HX.out.2.below Hv1.out))
  have x0 := HX.out.2.c0
  have x1 := HX.out.2.c1
  have x2 := HX.out.2.c2
  have x3 := HX.out.2.c3
  have x4 := HX.out.2.c4
  go_upto_region 4 with (go_at_call 37; refine (H0.out _ HX.out.1).mono ?_; rintro e v3 ⟨rfl, h1⟩; have Hv3 := Lib.hid h1; clear h1)
  clear x0 x1 x2 x3 x4
  replace HX := Lib.hid (And.intro (HX.out.1.trans (Hv3.out.mono HX.out.1.size)) (HX.out.2.below Hv3.out))
  have x0 := HX.out.2.c0
  have x1 := HX.out.2.c1
  have x2 := HX.out.2.c2
  have x3 := HX.out.2.c3
  have x4 := HX.out.2.c4
  have hS : Below v3.heap.size v3 v3.drew := (Below.refl _ _).drew
  refine wp_region_held_list (k := 10) rfl (fun w' => Below v3.heap.size v3 w') (by kernel_rfl) ?_
  generalize v3.drew = W0 at hS ⊢
  refine tk 0 (.agg #[.slice s.A0 s.l0.length s.c0, .slice s.A1 s.l1.length s.c1, .int .i64 s.a2, .int .i64 s.a3, .slice s.A4 s.l4.length s.c4]) rfl (fun w' hw' => by have z0 := held_now hw' x0; have z1 := held_now hw' x1; have z2 := held_now hw' x2; have z3 := held_now hw' x3; have z4 := held_now hw' x4; go_simp) hS ?_
  refine tk 1 (.agg #[.slice s.A0 s.l0.length s.c0, .slice s.A1 s.l1.length s.c1, .int .i64 s.a2, .int .i64 s.a3, .slice s.A4 s.l4.length s.c4]) rfl (fun w' hw' => by have z0 := held_now hw' x0; have z1 := held_now hw' x1; have z2 := held_now hw' x2; have z3 := held_now hw' x3; have z4 := held_now hw' x4; go_simp) hS ?_
  refine tk 2 (.slice A1 l1.length c1) rfl (fun w' hw' => by go_simp) hS ?_
  refine step_list (i := 3) (by kernel_rfl) rfl (by rfl) (fun K hK => ?_)
  go_simp
  refine (H7.out _ (HX.out.1.trans (hS.mono HX.out.1.size))).mono ?_
  rintro e U3 ⟨A9, c9, rfl, hc9, hr9, hbu⟩
  have hS1 := hS.trans (hbu.mono hS.size)
  refine hK _ _ hS1 ?_
  clear hK K hS hbu
  (try simp only [Act.put, List.setIfInBounds_toArray, List.set_cons_zero, List.set_cons_succ])
  have hS := hS1
  clear hS1
  have H39 := Lib.hid (And.intro hc9 hr9)
  clear hc9 hr9
  refine step_list (i := 4) (by kernel_rfl) rfl (by rfl) (fun K hK => ?_)
  go_simp
  refine (H9.out _ A9 c9 (HX.out.1.trans (hS.mono HX.out.1.size)) H39.out.2 H39.out.1).mono ?_
  rintro e U4 ⟨rfl, hbu⟩
  have hS1 := hS.trans (hbu.mono hS.size)
  refine hK _ _ hS1 ?_
  clear hK K hS hbu
  (try simp only [Act.put, List.setIfInBounds_toArray, List.set_cons_zero, List.set_cons_succ])
  have hS := hS1
  clear hS1
  refine tk 5 (.tuple #[.int .i64 cc, .int .i64 0]) rfl (fun w' hw' => by go_simp) hS ?_
  refine tk 6 (.int .i64 cc) rfl (fun w' hw' => by go_simp) hS ?_
  refine tk 7 (.int .i64 0) rfl (fun w' hw' => by go_simp) hS ?_
  refine tk 8 (.int .i64 cc) rfl (fun w' hw' => by go_simp) hS ?_
  (try simp only [Act.put, List.setIfInBounds_toArray, List.set_cons_zero, List.set_cons_succ])
  refine tk 9 (.int .i64 0) rfl (fun w' hw' => by go_simp) hS ?_
  refine wpAnyH_done (by kernel_rfl) ?_ _
  have Hv9 := Lib.hid hS
  clear hS x0 x1 x2 x3 x4 H39
  replace HX := Lib.hid (And.intro (HX.out.1.trans (Hv9.out.mono HX.out.1.size)) (HX.out.2.below Hv9.out))
  have x0 := HX.out.2.c0
  have x1 := HX.out.2.c1
  have x2 := HX.out.2.c2
  have x3 := HX.out.2.c3
  have x4 := HX.out.2.c4
  go_upto_region 5 with fail
  have hS : Below U4.heap.size U4 U4.drew := (Below.refl _ _).drew
  refine wp_region_held_list (k := 10) rfl (fun w' => Below U4.heap.size U4 w') (by kernel_rfl) ?_
  generalize U4.drew = W1 at hS ⊢
  refine tk 0 (.agg #[.slice s.A0 s.l0.length s.c0, .slice s.A1 s.l1.length s.c1, .int .i64 s.a2, .int .i64 s.a3, .slice s.A4 s.l4.length s.c4]) rfl (fun w' hw' => by have z0 := held_now hw' x0; have z1 := held_now hw' x1; have z2 := held_now hw' x2; have z3 := held_now hw' x3; have z4 := held_now hw' x4; go_simp) hS ?_
  refine tk 1 (.agg #[.slice s.A0 s.l0.length s.c0, .slice s.A1 s.l1.length s.c1, .int .i64 s.a2, .int .i64 s.a3, .slice s.A4 s.l4.length s.c4]) rfl (fun w' hw' => by have z0 := held_now hw' x0; have z1 := held_now hw' x1; have z2 := held_now hw' x2; have z3 := held_now hw' x3; have z4 := held_now hw' x4; go_simp) hS ?_
  refine tk 2 (.slice A2 l2.length c2) rfl (fun w' hw' => by go_simp) hS ?_
  (try simp only [Act.put, List.setIfInBounds_toArray, List.set_cons_zero, List.set_cons_succ])
  refine step_list (i := 3) (by kernel_rfl) rfl (by rfl) (fun K hK => ?_)
  go_simp
  refine (H8.out _ (HX.out.1.trans (hS.mono HX.out.1.size))).mono ?_
  rintro e U5 ⟨A9', c9', rfl, hc9, hr9, hbu⟩
  have hS1 := hS.trans (hbu.mono hS.size)
  refine hK _ _ hS1 ?_
  clear hK K hS hbu
  (try simp only [Act.put, List.setIfInBounds_toArray, List.set_cons_zero, List.set_cons_succ])
  have hS := hS1
  clear hS1
  have H39 := Lib.hid (And.intro hc9 hr9)
  clear hc9 hr9
  refine step_list (i := 4) (by kernel_rfl) rfl (by rfl) (fun K hK => ?_)
  go_simp
  refine (H10.out _ A9' c9' (HX.out.1.trans (hS.mono HX.out.1.size)) H39.out.2 H39.out.1).mono ?_
  rintro e U6 ⟨rfl, hbu⟩
  have hS1 := hS.trans (hbu.mono hS.size)
  refine hK _ _ hS1 ?_
  clear hK K hS hbu
  (try simp only [Act.put, List.setIfInBounds_toArray, List.set_cons_zero, List.set_cons_succ])
  have hS := hS1
  clear hS1
  refine tk 5 (.tuple #[.int .i64 dd, .int .i64 0]) rfl (fun w' hw' => by go_simp) hS ?_
  refine tk 6 (.int .i64 dd) rfl (fun w' hw' => by go_simp) hS ?_
  refine tk 7 (.int .i64 0) rfl (fun w' hw' => by go_simp) hS ?_
  refine tk 8 (.int .i64 dd) rfl (fun w' hw' => by go_simp) hS ?_
  (try simp only [Act.put, List.setIfInBounds_toArray, List.set_cons_zero, List.set_cons_succ])
  refine tk 9 (.int .i64 0) rfl (fun w' hw' => by go_simp) hS ?_
  refine wpAnyH_done (by kernel_rfl) ?_ _
  have Hv10 := Lib.hid hS
  clear hS x0 x1 x2 x3 x4 H39
  replace HX := Lib.hid (And.intro (HX.out.1.trans (Hv10.out.mono HX.out.1.size)) (HX.out.2.below Hv10.out))
  have x0 := HX.out.2.c0
  have x1 := HX.out.2.c1
  have x2 := HX.out.2.c2
  have x3 := HX.out.2.c3
  have x4 := HX.out.2.c4
  have hS := HF1.out.1
  have hnn := HF1.out.2
  have hn1 : 0 < s.l0.length := by have := hS.n1; rw [show s.sh.os.length = s.l0.length from ShM.len0 s] at this; omega
  have hm1 : 0 < s.l1.length := by have := hS.m1; rw [show s.sh.ps.length = s.l1.length from ShM.len1 s] at this; omega
  have gnn : ¬ nn < 0 := by rw [hnn]; have := off_nonneg s.sh; omega
  by_cases g : 0 < nn
  · have H11 : Hid (∀ V, Below w.heap.size w V → Calls Tryd.prog 29 #[.agg #[.slice s.A0 s.l0.length s.c0, .slice s.A1 s.l1.length s.c1, .int .i64 s.a2, .int .i64 s.a3, .slice s.A4 s.l4.length s.c4], .int .i64 0, .int .i64 0] V (fun e w' => e = .returned (.tuple #[.agg #[.int .i64 0, .int .i64 0], .int .i64 24]) ∧ Below V.heap.size V w')) := Lib.hid fun V hV => spanT_not s 0 0 V (HR.out V hV).2 (HR.out V hV).1 hS ⟨by omega, by omega⟩ ⟨by omega, by omega⟩ (by rw [← hnn]; exact g)
    have H12 : Hid (∀ V, Below w.heap.size w V → Calls Tryd.prog 31 #[.agg #[.slice s.A0 s.l0.length s.c0, .slice s.A1 s.l1.length s.c1, .int .i64 s.a2, .int .i64 s.a3, .slice s.A4 s.l4.length s.c4]] V (fun e w' => e = .returned (.tuple #[.slice none 0 0, .int .i64 24]) ∧ Below V.heap.size V w')) := Lib.hid fun V hV => sureT_not s V (HR.out V hV).2 (HR.out V hV).1 hS (by rw [← hnn]; exact g)
    have H13 : Hid (∀ V, Below w.heap.size w V → Calls Tryd.prog 33 #[.agg #[.slice s.A0 s.l0.length s.c0, .slice s.A1 s.l1.length s.c1, .int .i64 s.a2, .int .i64 s.a3, .slice s.A4 s.l4.length s.c4]] V (fun e w' => e = .returned (.tuple #[.agg #[.int .i64 0, .int .i64 0], .int .i64 24]) ∧ Below V.heap.size V w')) := Lib.hid fun V hV => sumT_not s V (HR.out V hV).2 (HR.out V hV).1 hS (by rw [← hnn]; exact g)
    have gcc : (cc == 0) = false := by rw [beq_eq_false_iff_ne]; omega
    have gn0 : (nn == 0) = false := by rw [beq_eq_false_iff_ne]; omega
    have gn1 : nn > 0 := g
    clear hS hnn hn1 hm1 gc gd
    go_upto_region 7 with (go_at_call 29; refine (H11.out _ HX.out.1).mono ?_; rintro e v11 ⟨rfl, h1⟩; have Hv11 := Lib.hid h1; clear h1)
    clear x0 x1 x2 x3 x4
    obtain ⟨X11, hX11⟩ : ∃ X, X = v11.alloc (.cells #[.int .i64 0, .int .i64 0] 24) := ⟨_, rfl⟩
    obtain ⟨r11, hr11⟩ : ∃ r, r = v11.heap.size := ⟨_, rfl⟩
    have hb : Below v11.heap.size v11 X11 := by rw [hX11]; exact (Below.refl _ _).alloc (Nat.le_refl _) _
    have hq : X11.heap[r11]? = some (.cells #[.int .i64 0, .int .i64 0] 24 (0, 0)) := by rw [hX11, hr11]; exact heap_alloc_last _ _
    have HR11 := Lib.hid hq
    have HB11 := Lib.hid (Hv11.out.trans (hb.mono Hv11.out.size))
    rw [← hX11, ← hr11]
    clear hX11 hr11 hb hq
    replace HX := Lib.hid (And.intro (HX.out.1.trans (HB11.out.mono HX.out.1.size)) (HX.out.2.below HB11.out))
    have x0 := HX.out.2.c0
    have x1 := HX.out.2.c1
    have x2 := HX.out.2.c2
    have x3 := HX.out.2.c3
    have x4 := HX.out.2.c4
    go_upto_region 8 with (go_at_call 31; refine (H12.out _ HX.out.1).mono ?_; rintro e v12 ⟨rfl, h1⟩; have Hv12 := Lib.hid h1; clear h1)
    clear x0 x1 x2 x3 x4
    replace HX := Lib.hid (And.intro (HX.out.1.trans (Hv12.out.mono HX.out.1.size)) (HX.out.2.below Hv12.out))
    have x0 := HX.out.2.c0
    have x1 := HX.out.2.c1
    have x2 := HX.out.2.c2
    have x3 := HX.out.2.c3
    have x4 := HX.out.2.c4
    go_upto_region 9 with (go_at_call 33; refine (H13.out _ HX.out.1).mono ?_; rintro e v13 ⟨rfl, h1⟩; have Hv13 := Lib.hid h1; clear h1)
    clear x0 x1 x2 x3 x4
    obtain ⟨X13, hX13⟩ : ∃ X, X = v13.alloc (.cells #[.int .i64 0, .int .i64 0] 24) := ⟨_, rfl⟩
    obtain ⟨r13, hr13⟩ : ∃ r, r = v13.heap.size := ⟨_, rfl⟩
    have hb : Below v13.heap.size v13 X13 := by rw [hX13]; exact (Below.refl _ _).alloc (Nat.le_refl _) _
    have hq : X13.heap[r13]? = some (.cells #[.int .i64 0, .int .i64 0] 24 (0, 0)) := by rw [hX13, hr13]; exact heap_alloc_last _ _
    have HR13 := Lib.hid hq
    have HB13 := Lib.hid (Hv13.out.trans (hb.mono Hv13.out.size))
    rw [← hX13, ← hr13]
    clear hX13 hr13 hb hq
    replace HX := Lib.hid (And.intro (HX.out.1.trans (HB13.out.mono HX.out.1.size)) (HX.out.2.below HB13.out))
    have x0 := HX.out.2.c0
    have x1 := HX.out.2.c1
    have x2 := HX.out.2.c2
    have x3 := HX.out.2.c3
    have x4 := HX.out.2.c4
    clear x0 x1 x2 x3 x4
    go_upto_region 12 with fail
    have HQ : Hid (X13.heap[r11]? = some (.cells #[.int .i64 0, .int .i64 0] 24 (0, 0)) ∧ X13.heap[r13]? = some (.cells #[.int .i64 0, .int .i64 0] 24 (0, 0))) := Lib.hid (by
      have hz : Below X11.heap.size X11 X13 := Hv12.out.trans (HB13.out.mono Hv12.out.size)
      exact ⟨(hz.block _ (heap_lt HR11.out)).trans HR11.out, HR13.out⟩)
    have p0 : X13.cell? ⟨r11, 0, none⟩ = some (.int .i64 0) := by rw [cell_of_row _ _ _ _ _ _ HQ.out.1]; rfl
    have p1 : X13.cell? ⟨r11, 1, none⟩ = some (.int .i64 0) := by rw [cell_of_row _ _ _ _ _ _ HQ.out.1]; rfl
    have q0 : X13.cell? ⟨r13, 0, none⟩ = some (.int .i64 0) := by rw [cell_of_row _ _ _ _ _ _ HQ.out.2]; rfl
    have q1 : X13.cell? ⟨r13, 1, none⟩ = some (.int .i64 0) := by rw [cell_of_row _ _ _ _ _ _ HQ.out.2]; rfl
    have hS : Below X13.heap.size X13 X13.drew := (Below.refl _ _).drew
    refine wp_region_held_list (k := 29) rfl (fun w' => Below X13.heap.size X13 w') (by kernel_rfl) ?_
    generalize X13.drew = W2 at hS ⊢
    refine tk 0 (.int .i64 24) rfl (fun w' hw' => by go_simp) hS ?_
    refine tk 1 (.bool true) rfl (fun w' hw' => by go_simp) hS ?_
    refine tk 2 (.bool true) rfl (fun w' hw' => by go_simp) hS ?_
    (try simp only [Act.put, List.setIfInBounds_toArray, List.set_cons_zero, List.set_cons_succ])
    refine tk 3 (.int .i64 24) rfl (fun w' hw' => by go_simp) hS ?_
    refine tk 4 (.bool true) rfl (fun w' hw' => by go_simp) hS ?_
    refine tk 5 (.bool true) rfl (fun w' hw' => by go_simp) hS ?_
    refine tk 6 (.bool true) rfl (fun w' hw' => by go_simp) hS ?_
    (try simp only [Act.put, List.setIfInBounds_toArray, List.set_cons_zero, List.set_cons_succ])
    refine tk 7 (.int .i64 24) rfl (fun w' hw' => by go_simp) hS ?_
    refine tk 8 (.bool true) rfl (fun w' hw' => by go_simp) hS ?_
    refine tk 9 (.bool true) rfl (fun w' hw' => by go_simp) hS ?_
    refine tk 10 (.bool true) rfl (fun w' hw' => by go_simp) hS ?_
    (try simp only [Act.put, List.setIfInBounds_toArray, List.set_cons_zero, List.set_cons_succ])
    refine tk 11 (.agg #[.int .i64 0, .int .i64 0]) rfl (fun w' hw' => by have z0 := held_now hw' p0; have z1 := held_now hw' p1; go_simp) hS ?_
    refine step_list (i := 12) (by kernel_rfl) rfl (by rfl) (fun K hK => ?_)
    go_simp
    refine (rg_any 0 0 _).mono ?_
    rintro e U7 ⟨rfl, hbu⟩
    have hS1 := hS.trans (hbu.mono hS.size)
    refine hK _ _ hS1 ?_
    clear hK K hS hbu
    (try simp only [Act.put, List.setIfInBounds_toArray, List.set_cons_zero, List.set_cons_succ])
    have hS := hS1
    clear hS1
    refine tk 13 (.bool true) rfl (fun w' hw' => by go_simp) hS ?_
    refine tk 14 (.bool true) rfl (fun w' hw' => by go_simp) hS ?_
    refine tk 15 (.bool true) rfl (fun w' hw' => by go_simp) hS ?_
    refine tk 16 (.slice none 0 0) rfl (fun w' hw' => by go_simp) hS ?_
    (try simp only [Act.put, List.setIfInBounds_toArray, List.set_cons_zero, List.set_cons_succ])
    refine tk 17 (.int .i64 0) rfl (fun w' hw' => by go_simp) hS ?_
    refine tk 18 (.bool true) rfl (fun w' hw' => by go_simp) hS ?_
    refine tk 19 (.bool true) rfl (fun w' hw' => by go_simp) hS ?_
    refine tk 20 (.bool true) rfl (fun w' hw' => by go_simp) hS ?_
    (try simp only [Act.put, List.setIfInBounds_toArray, List.set_cons_zero, List.set_cons_succ])
    refine tk 21 (.agg #[.int .i64 0, .int .i64 0]) rfl (fun w' hw' => by have z0 := held_now hw' q0; have z1 := held_now hw' q1; go_simp) hS ?_
    refine step_list (i := 22) (by kernel_rfl) rfl (by rfl) (fun K hK => ?_)
    go_simp
    refine (rg_any 0 0 _).mono ?_
    rintro e U8 ⟨rfl, hbu⟩
    have hS1 := hS.trans (hbu.mono hS.size)
    refine hK _ _ hS1 ?_
    clear hK K hS hbu
    (try simp only [Act.put, List.setIfInBounds_toArray, List.set_cons_zero, List.set_cons_succ])
    have hS := hS1
    clear hS1
    refine tk 23 (.bool true) rfl (fun w' hw' => by go_simp) hS ?_
    refine tk 24 (.bool true) rfl (fun w' hw' => by go_simp) hS ?_
    refine tk 25 (.bool true) rfl (fun w' hw' => by go_simp) hS ?_
    refine step_list (i := 26) (by kernel_rfl) rfl (by rfl) (fun K hK => ?_)
    go_simp
    refine (HW.out _ (HX.out.1.trans (hS.mono HX.out.1.size))).mono ?_
    rintro e U9 ⟨rfl, hbu⟩
    have hS1 := hS.trans (hbu.mono hS.size)
    refine hK _ _ hS1 ?_
    clear hK K hS hbu
    (try simp only [Act.put, List.setIfInBounds_toArray, List.set_cons_zero, List.set_cons_succ])
    have hS := hS1
    clear hS1
    refine tk 27 (.bool true) rfl (fun w' hw' => by go_simp) hS ?_
    refine tk 28 (.bool true) rfl (fun w' hw' => by go_simp) hS ?_
    refine wpAnyH_done (by kernel_rfl) ?_ _
    have HE := Lib.hid (HX.out.1.trans (hS.mono HX.out.1.size))
    clear hS p0 p1 q0 q1
    go_wp2_with fail
    refine bodyPost_ret (results_tmp (t := 6) rfl _ _ _) rfl ?_
    exact ⟨rfl, HE.out⟩
  · obtain rfl : nn = 0 := by omega
    have h00 : offS s.sh = 0 := hnn.symm
    obtain ⟨lo1, hlo1⟩ : ∃ x, x = (endE s.sh 0).1 := ⟨_, rfl⟩
    obtain ⟨hi1, hhi1⟩ : ∃ x, x = (endE s.sh 0).2 := ⟨_, rfl⟩
    have hc0 : 0 < s.sh.cs.length := by rw [ShM.len4]; have := hS.len; rw [ShM.len4 s, show s.sh.os.length = s.l0.length from ShM.len0 s, show s.sh.ps.length = s.l1.length from ShM.len1 s] at this; rw [this]; exact Nat.mul_pos hn1 hm1
    have hE0 : Ends s.sh (kCell s.sh.m 0) lo1 hi1 := by rw [hlo1, hhi1]; exact endE_is hS h00 hc0
    have hEW := ends_best hS h00 (κ := .upW) trivial trivial
    obtain ⟨lo2, hi2, hE2⟩ : ∃ a b, Ends s.sh .upW a b := ⟨_, _, hEW⟩
    have H11 : Hid (∀ V, Below w.heap.size w V → Calls Tryd.prog 29 #[.agg #[.slice s.A0 s.l0.length s.c0, .slice s.A1 s.l1.length s.c1, .int .i64 s.a2, .int .i64 s.a3, .slice s.A4 s.l4.length s.c4], .int .i64 0, .int .i64 0] V (fun e w' => e = .returned (.tuple #[.agg #[.int .i64 lo1, .int .i64 hi1], .int .i64 0]) ∧ Below V.heap.size V w')) := Lib.hid fun V hV => spanT_ok s 0 0 0 V (HR.out V hV).2 (HR.out V hV).1 hS hn1 hm1 (by omega) h00 lo1 hi1 hE0
    have H12 := Lib.hid fun (V : World) (hV : Below w.heap.size w V) => sureT_ok s V (HR.out V hV).2 (HR.out V hV).1 hS h00 (endE s.sh) (fun i hi => endE_is hS h00 (by rw [ShM.len4]; exact hi))
    have H13 := Lib.hid fun (V : World) (hV : Below w.heap.size w V) => sumT_ok s V (HR.out V hV).2 (HR.out V hV).1 hS h00 lo2 hi2 hE2
    have gdd : ¬ dd > 0 := by omega
    clear hS hnn hn1 hm1 gc gd g h00 hlo1 hhi1 hc0 hE0 hEW hE2 gnn
    go_upto_region 7 with (go_at_call 29; refine (H11.out _ HX.out.1).mono ?_; rintro e v11 ⟨rfl, h1⟩; have Hv11 := Lib.hid h1; clear h1)
    clear x0 x1 x2 x3 x4
    obtain ⟨X11, hX11⟩ : ∃ X, X = v11.alloc (.cells #[.int .i64 lo1, .int .i64 hi1] 24) := ⟨_, rfl⟩
    obtain ⟨r11, hr11⟩ : ∃ r, r = v11.heap.size := ⟨_, rfl⟩
    have hb : Below v11.heap.size v11 X11 := by rw [hX11]; exact (Below.refl _ _).alloc (Nat.le_refl _) _
    have hq : X11.heap[r11]? = some (.cells #[.int .i64 lo1, .int .i64 hi1] 24 (0, 0)) := by rw [hX11, hr11]; exact heap_alloc_last _ _
    have HR11 := Lib.hid hq
    have HB11 := Lib.hid (Hv11.out.trans (hb.mono Hv11.out.size))
    rw [← hX11, ← hr11]
    clear hX11 hr11 hb hq
    replace HX := Lib.hid (And.intro (HX.out.1.trans (HB11.out.mono HX.out.1.size)) (HX.out.2.below HB11.out))
    have x0 := HX.out.2.c0
    have x1 := HX.out.2.c1
    have x2 := HX.out.2.c2
    have x3 := HX.out.2.c3
    have x4 := HX.out.2.c4
    go_upto_region 8 with (go_at_call 31; refine (H12.out _ HX.out.1).mono ?_; rintro e v12 ⟨A12, c12, rfl, -, h1⟩; have Hv12 := Lib.hid h1; clear h1)
    clear x0 x1 x2 x3 x4
    replace HX := Lib.hid (And.intro (HX.out.1.trans (Hv12.out.mono HX.out.1.size)) (HX.out.2.below Hv12.out))
    have x0 := HX.out.2.c0
    have x1 := HX.out.2.c1
    have x2 := HX.out.2.c2
    have x3 := HX.out.2.c3
    have x4 := HX.out.2.c4
    go_upto_region 9 with (go_at_call 33; refine (H13.out _ HX.out.1).mono ?_; rintro e v13 ⟨rfl, h1⟩; have Hv13 := Lib.hid h1; clear h1)
    clear x0 x1 x2 x3 x4
    obtain ⟨X13, hX13⟩ : ∃ X, X = v13.alloc (.cells #[.int .i64 lo2, .int .i64 hi2] 24) := ⟨_, rfl⟩
    obtain ⟨r13, hr13⟩ : ∃ r, r = v13.heap.size := ⟨_, rfl⟩
    have hb : Below v13.heap.size v13 X13 := by rw [hX13]; exact (Below.refl _ _).alloc (Nat.le_refl _) _
    have hq : X13.heap[r13]? = some (.cells #[.int .i64 lo2, .int .i64 hi2] 24 (0, 0)) := by rw [hX13, hr13]; exact heap_alloc_last _ _
    have HR13 := Lib.hid hq
    have HB13 := Lib.hid (Hv13.out.trans (hb.mono Hv13.out.size))
    rw [← hX13, ← hr13]
    clear hX13 hr13 hb hq
    replace HX := Lib.hid (And.intro (HX.out.1.trans (HB13.out.mono HX.out.1.size)) (HX.out.2.below HB13.out))
    have x0 := HX.out.2.c0
    have x1 := HX.out.2.c1
    have x2 := HX.out.2.c2
    have x3 := HX.out.2.c3
    have x4 := HX.out.2.c4
    clear x0 x1 x2 x3 x4
    go_wp2_with (go_at_call 17; refine (HW.out _ HX.out.1).mono ?_; rintro e v9 ⟨rfl, h1⟩; have Hv9 := Lib.hid (HX.out.1.trans (h1.mono HX.out.1.size)); clear h1)
    refine bodyPost_ret (results_tmp (t := 6) rfl _ _ _) rfl ?_
    exact ⟨rfl, Hv9.out⟩
end Go.Proofs.YtcbhnhoicecnnaaDoor.Hand
namespace Go.Proofs.YtcbhnhoicecnnaaDoor.tallyEither
open Go.ChangeShapes Go.WideShapes Go.ChangeAt Go.RowKit Go.Deep Go.Proofs.YtcbhnhoicecnnaaDoorW.PrintWords Go.Proofs.YtcbhnhoicecnnaaDoor.Hand
set_option linter.unusedVariables false
set_option linter.unusedSimpArgs false
set_option maxRecDepth 100000
theorem lifted (os : Os) (started : os.Started) (H : Type) (enc : TypeId × Value → H) :
    ReturnsInHanded {} Tryd.checked os 8 .any (fun w args => (Rows.tallyEitherSpec.pre enc Tryd.prog Tryd.f8 [] false w args ∧ laidMetH Tryd.prog laidD w) ∧ sizedMet enc Tryd.prog Tryd.f8 (OpenSpec.ofChange Rows.tallyEitherSpec) false w args)
      (Rows.tallyEitherSpec.post enc Tryd.prog Tryd.f8 false true false false) := by
  refine returnsInHanded_of_change_and (C := Tryd.checked) (X := fun w _ => laidMetH Tryd.prog laidD w) (fun _ _ _ hh h => h.of_heap hh) ownD started (by kernel_rfl) Tryd.func8
    (ChangeSpec.witness_shaped (enc := enc) (C := Tryd.checked) (os := os) (X := fun w _ => laidMetH Tryd.prog laidD w) false (World.doorLaid Tryd.prog 400 os) #[.agg #[.slice none 0 0, .slice none 0 0, .int .i64 0, .int .i64 0, .slice none 0 0], .slice none 0 0, .slice none 0 0] 8 rfl (World.shaped_of_RefB (by kernel_rfl) (by kernel_rfl)) (by kernel_rfl) (by kernel_rfl) (by kernel_rfl) (door_metD os _)) ?_
  intro W base args ds gs before hval0 hW _ _ hL _
  have hval : ∀ (j : Nat) t v, Tryd.f8.params[j]? = some t → args[j]? = some v → Value.okWide Tryd.prog W .any base t v := hval0
  have hW' := hW
  obtain ⟨p, q, hA0, hV, rfl, hfz, hnd⟩ := hW
  have hA : DataW.TrodAll enc Tryd.prog W 0 (fun _ => true) true Tryd.f8.params.toList args.toList ds p := hA0
  rw [Tryd.params8] at hA hval
  obtain ⟨v0, vs0, d0, ds0, p0, q0, hargs, rfl, rfl, h0, r0⟩ := trodAll_cons hA
  obtain ⟨v1, vs1, d1, ds1, p1, q1, rfl, rfl, rfl, h1, r1⟩ := trodAll_cons r0
  obtain ⟨v2, vs2, d2, ds2, p2, q2, rfl, rfl, rfl, h2, r2⟩ := trodAll_cons r1
  obtain ⟨rfl, rfl, rfl⟩ := trodAll_nil r2
  obtain rfl : args = #[v0, v1, v2] := by cases args; simp_all
  obtain ⟨rfl, rfl⟩ := trodVars_none hV
  have hvars := vars_of hL
  obtain ⟨cs0, rfl⟩ : ∃ cs, v0 = .agg cs := by have h := (hval 0 26 v0 rfl rfl); unfold Value.okWide at h; simp only [Tryd.underlying26] at h; obtain ⟨cs, h1, _⟩ := h; exact ⟨cs, h1⟩
  have k0 := h0
  have lt0 : ∀ x ∈ p0, x.block < W.heap.size := by obtain ⟨m, hm⟩ := k0; exact DataW.trod_lt m _ _ _ hm
  obtain ⟨fuel0, hf0⟩ := h0
  obtain ⟨s0, e0, g0⟩ := open_sheet hf0
  obtain rfl : cs0 = #[.slice s0.A0 s0.l0.length s0.c0, .slice s0.A1 s0.l1.length s0.c1, .int .i64 s0.a2, .int .i64 s0.a3, .slice s0.A4 s0.l4.length s0.c4] := by cases cs0; simp only [Value.cells] at e0; rw [e0]; rfl
  obtain ⟨A1, n1, c1, rfl⟩ := okWide_slice Tryd.underlying48 (hval 1 48 v1 rfl rfl)
  have k1 := h1
  have lt1 : ∀ x ∈ p1, x.block < W.heap.size := by obtain ⟨m, hm⟩ := k1; exact DataW.trod_lt m _ _ _ hm
  obtain ⟨fuel1, hf1⟩ := h1
  obtain ⟨A1', c1', l1, e1, g1, gl1, gw1⟩ := open_su16 hf1
  simp only [Value.cells, List.cons.injEq, Value.slice.injEq, and_true] at e1
  obtain ⟨rfl, rfl, rfl⟩ := e1
  obtain ⟨A2, n2, c2, rfl⟩ := okWide_slice Tryd.underlying49 (hval 2 49 v2 rfl rfl)
  have k2 := h2
  have lt2 : ∀ x ∈ p2, x.block < W.heap.size := by obtain ⟨m, hm⟩ := k2; exact DataW.trod_lt m _ _ _ hm
  obtain ⟨fuel2, hf2⟩ := h2
  obtain ⟨A2', c2', l2, e2, g2, gl2, gw2⟩ := open_su8 hf2
  simp only [Value.cells, List.cons.injEq, Value.slice.injEq, and_true] at e2
  obtain ⟨rfl, rfl, rfl⟩ := e2
  clear hA0 hval0
  refine (Hand.either_any s0 A1 c1 l1 A2 c2 l2 W hvars g0 g1 gl1 gw1 g2 gl2 gw2).mono fun e W' ⟨he, bel⟩ => ?_
  subst he
  exact ⟨_, rfl, _, _, _, [], _, [], hW', trodAll_mk1 (shut_bool Tryd.underlying4 _), (trodAll_cons_mk (Below.trod laidOutD (by kernel_rfl) (of_decide_eq_true (by kernel_rfl)) k0 bel lt0) (trodAll_cons_mk (Below.trod laidOutD (by kernel_rfl) (of_decide_eq_true (by kernel_rfl)) k1 bel lt1) (trodAll_cons_mk (Below.trod laidOutD (by kernel_rfl) (of_decide_eq_true (by kernel_rfl)) k2 bel lt2) trodAll_mk0))), rfl, bel.frame _, fun h => by cases h⟩
theorem row_holds : Rows.TallyEitherSaid :=
  OpenClaim.holds_of_wide 8 Tryd.f8 rfl rfl rfl rfl rfl rfl rfl ⟨rfl, rfl, rfl, rfl, rfl⟩ rfl rfl rfl rfl rfl (by kernel_rfl) Tryd.func8 (by kernel_rfl)
    (of_decide_eq_true (by kernel_rfl)) (by unfold Func.isWrapper; first | (rw [if_pos (by decide +kernel)]; kernel_rfl) | (rw [if_neg (by decide +kernel)]; exact ⟨rfl, rfl⟩))
    (fun os started H enc _ => lifted os started H enc)
theorem proved : Rows.TallyEitherCardSaid :=
  Claim7.holds_tied_plain_at .later [] [.data, .data] true (true, "5e491ff97e15d9dbeef380c8e43fae43eecb164c938dba20fa664fd619ea33c3") false
    row_holds (fun _ h => by cases h) (by kernel_rfl) (fun _ h => by cases h) tallyEither_row_tie rfl ⟨rfl, rfl⟩ (by kernel_rfl) rfl
    (fun f fn hf hfn => by
      obtain rfl : f = 8 := Option.some.inj ((show Tryd.prog.funcNamed "peavey/peaveylaw11.TallyEither" = some 8 by kernel_rfl).symm.trans hf) |>.symm
      obtain rfl : fn = Tryd.f8 := (Option.some.inj (Tryd.func8.symm.trans hfn)).symm
      exact ⟨by kernel_rfl, fun j t ht => by
        rw [Tryd.params8] at ht
        exact match j, ht with
          | 0, ht => (Option.some.inj ht) ▸ (show Tryd.prog.wantsStandIn 26 = false by kernel_rfl)
          | 1, ht => (Option.some.inj ht) ▸ (show Tryd.prog.wantsStandIn 48 = false by kernel_rfl)
          | 2, ht => (Option.some.inj ht) ▸ (show Tryd.prog.wantsStandIn 49 = false by kernel_rfl)
          | _ + 3, ht => by simp at ht⟩)
    (by kernel_rfl)
end Go.Proofs.YtcbhnhoicecnnaaDoor.tallyEither
namespace Go.Proofs.YtcbhnhoicecnnaaDoor
theorem tallyEitherCard_holds : Rows.TallyEitherCardSaid := tallyEither.proved
end Go.Proofs.YtcbhnhoicecnnaaDoor

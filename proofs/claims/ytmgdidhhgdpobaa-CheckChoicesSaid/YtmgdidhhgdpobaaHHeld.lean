/- A region that draws its order, whose operations read cells that stay, and whose callees make memory: one walk in the order of the text. -/
import Derived.Deep.Draws
import Derived.Deep.QuietTactic
import Derived.BigQuiet
import Derived.WalkKit
import Derived.Below
import Derived.Lib.Hide
import Derived.Test.YtmgdidhhgdpobaaProg
namespace Go.Proofs.Ytmgdidhhgdpobaa.Hand
open Go.RowKit

/-- the worlds in which all below a number is as in one world -/
def Kw (n : Nat) (w : World) : Type := {v : World // Below n w v}

instance (n : Nat) (w : World) : Nonempty (Kw n w) := ⟨⟨w, Below.refl n w⟩⟩

theorem wp_region_kept {P : Program} {id : Nat} {Q : Exit → Act → World → Prop} {a : Act} {w : World} {l : List Oper} (n : Nat) (w0 : World) (hm : P.follows .mixedOrders = true) (hB : Region.lexB .any l.toArray = true) (hb : Below n w0 w)
    (h : wpQuiet P l.toArray (fun w' => ∃ x : Kw n w0, w' = x.1) (fun a' => ∀ w', (∃ x : Kw n w0, w' = x.1) → Q .normal a' w') l a) : (Code.region id l.toArray true).wp P Q a w :=
  wp_region_quiet (C := fun w' => ∃ x : Kw n w0, w' = x.1) hm hB ⟨⟨_, hb.drew⟩, rfl⟩ (by simpa using h)

theorem kept_calls {P : Program} {n : Nat} {w0 : World} {f : FuncId} {args : Array Value} {v : Value} (x : Kw n w0) (hn : n ≤ w0.heap.size)
    (h : Calls P f args x.1 fun e w' => e = .returned v ∧ Below x.1.heap.size x.1 w') : Calls P f args x.1 fun e w'' => e = .returned v ∧ ∃ y : Kw n w0, w'' = y.1 :=
  h.mono fun _ w' ⟨h1, h2⟩ => ⟨h1, ⟨⟨w', x.2.trans (h2.mono (Nat.le_trans hn x.2.size))⟩, rfl⟩⟩

theorem kept_cell {n : Nat} {w0 : World} {p : Addr} {v : Value} (hp : p.block < n) (h : w0.cell? p = some v) : ∀ x : Kw n w0, x.1.cell? p = some v :=
  fun x => by rw [x.2.cell hp]; exact h
theorem cell_size {w : World} {p : Addr} {v : Value} (h : w.cell? p = some v) : p.block < w.heap.size := by
  rcases Nat.lt_or_ge p.block w.heap.size with g | g
  · exact g
  · exfalso; simp [World.cell?, Array.getElem?_eq_none g] at h
theorem kept_cell' {w0 : World} {p : Addr} {v : Value} (h : w0.cell? p = some v) : ∀ x : Kw w0.heap.size w0, x.1.cell? p = some v := kept_cell (cell_size h) h
end Go.Proofs.Ytmgdidhhgdpobaa.Hand

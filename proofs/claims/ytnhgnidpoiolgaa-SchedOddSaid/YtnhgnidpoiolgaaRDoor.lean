/- No package variable is read here. -/
import Derived.Test.YtnhgnidpoiolgaaRUni
import Derived.Below
namespace Go.Proofs.Ytnhgnidpoiolgaa.X
open Go Go.RX Go.RowKit Go.Proofs
def GV (_ : World) : Prop := True
theorem gs (w W : World) (_ : Below w.heap.size w W) (_ : GV w) : GV W := trivial
def gl (_ : Nat) : Option (List Value) := none
theorem glok : ∀ w, GV w → ∀ g vs, gl g = some vs → ∀ (j : Nat) v, vs[j]? = some v → oneV v = true ∧ w.cell? ⟨g, j, none⟩ = some v := by
  intro w _ g vs h
  cases h
end Go.Proofs.Ytnhgnidpoiolgaa.X

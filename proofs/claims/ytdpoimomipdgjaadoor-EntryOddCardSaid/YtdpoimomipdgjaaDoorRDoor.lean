/- The package variable of identifiers, as it is laid. -/
import Derived.Test.YtdpoimomipdgjaaDoorRUni
import Derived.Below
namespace Go.Proofs.YtdpoimomipdgjaaDoor.X
open Go Go.RX Go.RowKit Go.Proofs
/-- The package variable's cells, as they are laid. -/
def GV (w : World) : Prop := w.cell? ⟨0, 0, none⟩ = some (.int .i64 2047) ∧ w.cell? ⟨0, 1, none⟩ = some (.int .i64 536870911)
theorem gs (w W : World) (h : Below w.heap.size w W) (g : GV w) : GV W := by
  have lt := World.block_lt_of_cell? w _ g.1
  have e : ∀ k, W.cell? ⟨0, k, none⟩ = w.cell? ⟨0, k, none⟩ := fun k => by simp [World.cell?, h.block _ lt]
  exact ⟨(e 0).trans g.1, (e 1).trans g.2⟩
/-- What is read of it. -/
def gl (g : Nat) : Option (List Value) := RX.look g [(0, [.int .i64 2047, .int .i64 536870911])]
theorem glok : ∀ w, GV w → ∀ g vs, gl g = some vs → ∀ (j : Nat) v, vs[j]? = some v → oneV v = true ∧ w.cell? ⟨g, j, none⟩ = some v := by
  intro w hw g vs h j v hv
  unfold gl at h
  rw [look_cons] at h
  split at h
  · rename_i hg
    subst hg
    cases h
    match j with
    | 0 => cases hv; exact ⟨rfl, hw.1⟩
    | 1 => cases hv; exact ⟨rfl, hw.2⟩
    | j + 2 => simp at hv
  · cases h
end Go.Proofs.YtdpoimomipdgjaaDoor.X

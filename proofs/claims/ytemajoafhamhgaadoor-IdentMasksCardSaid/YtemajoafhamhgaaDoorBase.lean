/- A cell that is there stays there, whatever is stored. -/
import Derived.WalkKit
import Derived.RowKit
namespace Go.Proofs.YtemajoafhamhgaaDoor.Base
theorem cell_there (w : World) (p q : Addr) (v : Value) : ((w.setCell p v).cell? q).isSome = (w.cell? q).isSome := by
  unfold World.setCell World.cell?
  simp only [Array.getElem?_modify]
  by_cases h : p.block = q.block
  · rw [if_pos h]
    cases w.heap[q.block]? with
    | none => rfl
    | some o =>
      cases o with
      | cells c e f =>
        simp only [Option.map_some]
        by_cases hq : q.spot.isSome = true
        · simp [hq]
        · by_cases hp : p.spot.isSome = true
          · simp [hp]
          · simp only [hq, hp, if_neg, Bool.false_eq_true, not_false_eq_true]
            simp only [Array.getElem?_setIfInBounds]
            by_cases ho : p.off = q.off
            · by_cases hs : q.off < c.size
              · simp [ho, hs]
              · simp [ho, hs]
            · simp [ho]
      | _ => rfl
  · rw [if_neg h]
end Go.Proofs.YtemajoafhamhgaaDoor.Base

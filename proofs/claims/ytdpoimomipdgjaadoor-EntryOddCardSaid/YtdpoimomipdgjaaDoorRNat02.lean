/- Numbers that are right, as natural ones. -/
import Derived.Test.YtdpoimomipdgjaaDoorRIdent
namespace Go.Proofs.YtdpoimomipdgjaaDoor.X
open Go Go.RX Go.RowKit Go.Proofs
set_option linter.unusedVariables false
set_option linter.unusedSimpArgs false
theorem right_nat {e : Bool} {n : Int} (h : right e n = true) : ∃ m : Nat, n = (m : Int) ∧ m < 2 ^ (if e = true then 29 else 11) := by
  have hb := right_is h
  obtain ⟨m, rfl⟩ := Int.eq_ofNat_of_zero_le hb.1
  refine ⟨m, rfl, ?_⟩
  have h2 := hb.2
  cases e
  · have : (m : Int) ≤ 2047 := h2
    rw [if_neg (by decide)]; omega
  · have : (m : Int) ≤ 536870911 := h2
    rw [if_pos rfl]; omega
theorem nat_right (e : Bool) (m : Nat) (h : m < 2 ^ (if e = true then 29 else 11)) : right e (m : Int) = true := by
  refine decide_eq_true ⟨by omega, ?_⟩
  cases e
  · rw [if_neg (by decide)] at h; show (m : Int) ≤ 2047; omega
  · rw [if_pos rfl] at h; show (m : Int) ≤ 536870911; omega
theorem wide (e : Bool) : (2 : Nat) ^ (if e = true then 29 else 11) ≤ 2 ^ 29 := by cases e <;> simp
end Go.Proofs.YtdpoimomipdgjaaDoor.X

/- The law's first calls, whose answers are fixed. -/
import Derived.Test.YtdepagelkocldaaDoorRFifo
namespace Go.Proofs.YtdepagelkocldaaDoor.X
open Go Go.RX Go.RowKit Go.Proofs
set_option linter.unusedVariables false
set_option linter.unusedSimpArgs false
def awake14_S : RX.Spec U := fun
  | [] => some ⟨none, (.one ⟨false, [.v (.bool true)]⟩)⟩
  | _ => none

theorem awake14_ok : ConOk Tryd.prog U GV 8 awake14_S :=
  fn_go gs ty glok (conCons New_ok (conCons Offer_ok (conCons Take_ok (conCons Lost_ok (conCons FRight_ok conNil))))) Tryd.func8 (by kernel_rfl) fun ds r hg hp => by
    unfold awake14_S at hg
    split at hg
    · cases hg
      refine ⟨fun _ _ => none, ((0 : Nat) ≤ (1000000 : Nat) ∧ (1 : Nat) ≤ (1000000 : Nat)) ∧ ((1 : Nat) ≤ (1000000 : Nat) ∧ (1 : Nat) ≤ (1000000 : Nat)) ∧ ((1 : Nat) ≤ (1000000 : Nat) ∧ (0 : Nat) ≤ (1000000 : Nat)) ∧ (1 : Nat) ≤ (1000000 : Nat) ∧ (0 : Nat) ≤ (1000000 : Nat) ∧ (0 : Nat) ≤ (1000000 : Nat) ∧ (0 : Nat) ≤ (1000000 : Nat) ∧ Out.one (U := U) (D.mk false [CV.v (Value.bool true)]) = Out.one (U := U) (D.mk false [CV.v (Value.bool true)]), by kernel_rfl, ?_⟩
      exact ⟨⟨by omega, by omega⟩, ⟨by omega, by omega⟩, ⟨by omega, by omega⟩, by omega, by omega, by omega, by omega, rfl⟩
    · cases hg

end Go.Proofs.YtdepagelkocldaaDoor.X

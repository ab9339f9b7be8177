/- The law's first calls, whose answers are fixed. -/
import Derived.Test.YtdpoimomipdgjaaDoorREnte
import Derived.Test.YtdpoimomipdgjaaDoorREntc
namespace Go.Proofs.YtdpoimomipdgjaaDoor.X
open Go Go.RX Go.RowKit Go.Proofs
set_option linter.unusedVariables false
set_option linter.unusedSimpArgs false
def awake06_S : RX.Spec U := fun
  | [] => some ⟨none, (.one ⟨false, [.v (.bool true)]⟩)⟩
  | _ => none

theorem awake06_ok : ConOk Tryd.prog U GV 9 awake06_S :=
  fn_go gs ty glok (conCons eEncode_ok (conCons eDecode_ok (conCons rSame_ok (conCons entInc_ok (conCons eRight_ok conNil))))) Tryd.func9 (by kernel_rfl) fun ds r hg hp => by
    unfold awake06_S at hg
    split at hg
    · cases hg
      refine ⟨fun _ _ => none, ((2 : Nat) ≤ (1000000 : Nat) ∧ (0 : Nat) ≤ (1000000 : Nat)) ∧ (12 : Nat) ≤ (9223372036854775807 : Nat) ∧ ((0 : Nat) ≤ (1000000 : Nat) ∧ (0 : Nat) ≤ (1000000 : Nat)) ∧ (true = true → (2 : Nat) ≤ (1000000 : Nat) ∧ (0 : Nat) ≤ (1000000 : Nat)) ∧ (true = true → (2 : Nat) ≤ (1000000 : Nat) ∧ (0 : Nat) ≤ (1000000 : Nat)) ∧ Out.one (U := U) (D.mk false [CV.v (Value.bool true)]) = Out.one (U := U) (D.mk false [CV.v (Value.bool true)]), by kernel_rfl, ?_⟩
      exact ⟨by decide, by decide, by decide, fun _ => by decide, fun _ => by decide, rfl⟩
    · cases hg

end Go.Proofs.YtdpoimomipdgjaaDoor.X

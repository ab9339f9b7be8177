/- The law's first calls, whose answers are fixed. -/
import Derived.Test.YtemajoafhamhgaaDoorRAnyOf
namespace Go.Proofs.YtemajoafhamhgaaDoor.X
open Go Go.RX Go.RowKit Go.Proofs
set_option linter.unusedVariables false
set_option linter.unusedSimpArgs false
def awake_S : RX.Spec U := fun
  | [] => some ⟨none, (.one ⟨false, [.v (.bool true)]⟩)⟩
  | _ => none

theorem awake_ok : ConOk Tryd.prog U GV 9 awake_S :=
  fn_go gs ty glok (conCons Key_ok (conCons Print_ok (conCons Parse_ok (conCons At_ok (conCons Less_ok (conCons Match_ok (conCons Any_ok (conCons Right_ok conNil)))))))) Tryd.func9 (by kernel_rfl) fun ds r hg hp => by
    unfold awake_S at hg
    split at hg
    · cases hg
      refine ⟨fun _ _ => none, ((-9223372036854775808 : Int) ≤ (262143 : Int) ∧ (262143 : Int) ≤ (9223372036854775807 : Int)) ∧ (true = true → (0 : Nat) ≤ (1000000 : Nat)) ∧ Out.one (U := U) (D.mk false [CV.v (Value.bool true)]) = Out.one (U := U) (D.mk false [CV.v (Value.bool true)]), by kernel_rfl, ?_⟩
      exact ⟨by omega, fun _ => by omega, rfl⟩
    · cases hg

end Go.Proofs.YtemajoafhamhgaaDoor.X

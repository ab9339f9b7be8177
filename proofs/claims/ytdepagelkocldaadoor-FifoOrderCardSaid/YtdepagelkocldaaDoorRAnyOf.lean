/- Whether one of some filters lets an identifier through. -/
import Derived.Test.YtdepagelkocldaaDoorRPrint
namespace Go.Proofs.YtdepagelkocldaaDoor.X
open Go Go.RX Go.RowKit Go.Proofs
set_option linter.unusedVariables false
set_option linter.unusedSimpArgs false
def anyB (e : Bool) (n : Int) (l : List Filter) : Bool := l.any fun f => matchB f.ext f.code f.mask e n
def Any_S : RX.Spec U := fun
  | [⟨true, [.v (.bool e), .v (.int .i64 n)]⟩, ⟨false, [.sl .filter l]⟩] => some ⟨some (l.length ≤ 1000000), (.one ⟨false, [.v (.bool (anyB e n l))]⟩)⟩
  | _ => none

theorem Any_ok : ConOk Tryd.prog U GV 38 Any_S :=
  fn_go gs ty glok (conCons Match_ok conNil) Tryd.func38 (by kernel_rfl) fun ds r hg hp => by
    unfold Any_S at hg
    split at hg
    · rename_i e n l
      obtain ⟨l, rfl⟩ : ∃ q_ : List Filter, q_ = l := ⟨l, rfl⟩
      cases hg
      replace hp : (l.length ≤ 1000000) := hp
      refine ⟨fun st key => if key = 2 then some { N := l.length, mods := fun k => [.tv 8 (.int .i64 (k : Int))], inv := fun k => anyB e n (l.take k) = false } else none, anyB e n (List.take (0 : Nat) l) = false ∧ Value.int IntKind.i64 (0 : Int) = Value.int IntKind.i64 (0 : Int) ∧ ∀ (k : Nat), k ≤ List.length l → anyB e n (List.take k l) = false → (decide ((↑k : Int) < (↑(List.length l) : Int)) = true → ((0 : Int) ≤ (↑k : Int) ∧ (↑k : Int) < (↑(List.length l) : Int)) ∧ (matchB (Filter.ext (List.getD l (Int.toNat (↑k : Int)) (d_filter))) (Filter.code (List.getD l (Int.toNat (↑k : Int)) (d_filter))) (Filter.mask (List.getD l (Int.toNat (↑k : Int)) (d_filter))) e n = true → Out.one (U := U) (D.mk false [CV.v (Value.bool (decide ((0 : Int) ≤ (↑k : Int))))]) = Out.one (U := U) (D.mk false [CV.v (Value.bool (anyB e n l))])) ∧ (matchB (Filter.ext (List.getD l (Int.toNat (↑k : Int)) (d_filter))) (Filter.code (List.getD l (Int.toNat (↑k : Int)) (d_filter))) (Filter.mask (List.getD l (Int.toNat (↑k : Int)) (d_filter))) e n = false → k < List.length l ∧ anyB e n (List.take (k + (1 : Nat)) l) = false ∧ Value.int IntKind.i64 (wrap64 ((↑k : Int) + (1 : Int))) = Value.int IntKind.i64 (↑(k + (1 : Nat)) : Int))) ∧ (decide ((↑k : Int) < (↑(List.length l) : Int)) = false → Out.one (U := U) (D.mk false [CV.v (Value.bool false)]) = Out.one (U := U) (D.mk false [CV.v (Value.bool (anyB e n l))])), by kernel_rfl, ?_⟩
      refine ⟨rfl, rfl, fun k hk hik => ⟨fun hlt => ?_, fun hge => ?_⟩⟩
      · have hlt : k < l.length := by have := of_decide_eq_true hlt; omega
        rw [getD_at l k _ hlt]
        refine ⟨⟨by omega, by omega⟩, fun ho => ?_, fun ho => ⟨hlt, ?_, ?_⟩⟩
        · simp only [Out.one.injEq, Out.tup.injEq, D.mk.injEq, List.cons.injEq, CV.v.injEq, CV.sl.injEq, Value.bool.injEq, Value.int.injEq, Value.string.injEq, and_true, true_and, heq_eq_eq]
          rw [decide_eq_true (show (0 : Int) ≤ (k : Int) by omega)]
          exact (List.any_eq_true.mpr ⟨l[k], List.getElem_mem hlt, ho⟩).symm
        · have : l.take (k + 1) = l.take k ++ [l[k]] := by rw [List.take_succ_eq_append_getElem hlt]
          show (List.take (k + 1) l).any _ = false
          rw [this, List.any_append, List.any_cons]
          have hik : (List.take k l).any (fun f => matchB f.ext f.code f.mask e n) = false := hik
          rw [hik, ho]; rfl
        · rw [w64 (by omega)]; rfl
      · have hge := of_decide_eq_false hge
        have : l.take k = l := List.take_of_length_le (by omega)
        rw [this] at hik
        simp only [Out.one.injEq, Out.tup.injEq, D.mk.injEq, List.cons.injEq, CV.v.injEq, CV.sl.injEq, Value.bool.injEq, Value.int.injEq, Value.string.injEq, and_true, true_and, heq_eq_eq]
        exact hik.symm
    · cases hg

end Go.Proofs.YtdepagelkocldaaDoor.X

/- The document's answer: which messages may be, and which are the same. -/
import Derived.Test.YtdpoimomipdgjaaDoorRRef02
import Derived.Test.YtdpoimomipdgjaaDoorRMsg
namespace Go.Proofs.YtdpoimomipdgjaaDoor.X
open Go Go.RX Go.RowKit Go.Proofs
set_option linter.unusedVariables false
set_option linter.unusedSimpArgs false
def rsmall_S : RX.Spec U := fun
  | [⟨false, [.v (.int .i64 n)]⟩] => some ⟨none, (.one ⟨false, [.v (.bool (sm n))]⟩)⟩
  | _ => none

theorem rsmall_ok : ConOk Tryd.prog U GV 68 rsmall_S :=
  fn_go gs ty glok conNil Tryd.func68 (by kernel_rfl) fun ds r hg hp => by
    unfold rsmall_S at hg
    split at hg
    · rename_i n
      cases hg
      refine ⟨fun _ _ => none, Out.one (U := U) (D.mk false [CV.v (Value.bool (decide ((1 : Int) ≤ n) && decide (n ≤ (65535 : Int))))]) = Out.one (U := U) (D.mk false [CV.v (Value.bool (sm n))]), by kernel_rfl, ?_⟩
      simp only [Out.one.injEq, Out.tup.injEq, D.mk.injEq, List.cons.injEq, CV.v.injEq, CV.sl.injEq, Value.bool.injEq, Value.int.injEq, Value.string.injEq, and_true, true_and, heq_eq_eq]
      simp [sm, Bool.decide_and]
    · cases hg

def rmsgRight_S : RX.Spec U := fun
  | [⟨true, [.v (.bool e), .v (.int .i64 n), .v (.int .i64 sd), .v (.int .i64 ic), .v (.int .i64 sq), .v (.int .i64 nm), .v (.string dt)]⟩] => some ⟨none, (.one ⟨false, [.v (.bool (msgR ⟨e, n, sd, ic, sq, nm, dt⟩))]⟩)⟩
  | _ => none

theorem rmsgRight_ok : ConOk Tryd.prog U GV 42 rmsgRight_S :=
  fn_go gs ty glok (conCons rRight_ok (conCons rsmall_ok conNil)) Tryd.func42 (by kernel_rfl) fun ds r hg hp => by
    unfold rmsgRight_S at hg
    split at hg
    · rename_i e n sd ic sq nm dt
      cases hg
      refine ⟨fun _ _ => none, Out.one (U := U) (D.mk false [CV.v (Value.bool (right e n && decide ((0 : Int) ≤ sd) && decide (sd ≤ (15 : Int)) && sm ic && sm sq && sm nm && decide ((↑(ByteArray.size dt) : Int) ≤ (8 : Int))))]) = Out.one (U := U) (D.mk false [CV.v (Value.bool (msgR (Msg.mk e n sd ic sq nm dt)))]), by kernel_rfl, ?_⟩
      simp only [Out.one.injEq, Out.tup.injEq, D.mk.injEq, List.cons.injEq, CV.v.injEq, CV.sl.injEq, Value.bool.injEq, Value.int.injEq, Value.string.injEq, and_true, true_and, heq_eq_eq]
      have : decide (sd ≤ 15) = decide (sd < 16) := decide_eq_decide.mpr (by omega)
      simp [msgR, Bool.decide_and, Bool.and_assoc, this]
    · cases hg

def msgsSame_S : RX.Spec U := fun
  | [⟨false, [.sl .msg l]⟩, ⟨false, [.sl .msg m]⟩] => some ⟨some (l.length ≤ 1000000), (.one ⟨false, [.v (.bool (msgsEq l m))]⟩)⟩
  | _ => none

theorem msgsSame_ok : ConOk Tryd.prog U GV 51 msgsSame_S :=
  fn_go gs ty glok conNil Tryd.func51 (by kernel_rfl) fun ds r hg hp => by
    unfold msgsSame_S at hg
    split at hg
    · rename_i l m
      obtain ⟨l, rfl⟩ : ∃ q_ : List Msg, q_ = l := ⟨l, rfl⟩
      obtain ⟨m, rfl⟩ : ∃ q_ : List Msg, q_ = m := ⟨m, rfl⟩
      cases hg
      replace hp : (l.length ≤ 1000000) := hp
      refine ⟨fun st key => if key = 4 then some { N := l.length, mods := fun k => [.tv 5 (.int .i64 (k : Int))], inv := fun k => l.take k = m.take k } else none, (((↑(List.length l) : Int) != (↑(List.length m) : Int)) = true → Out.one (U := U) (D.mk false [CV.v (Value.bool false)]) = Out.one (U := U) (D.mk false [CV.v (Value.bool (msgsEq l m))])) ∧ (((↑(List.length l) : Int) != (↑(List.length m) : Int)) = false → List.take (0 : Nat) l = List.take (0 : Nat) m ∧ Value.int IntKind.i64 (0 : Int) = Value.int IntKind.i64 (0 : Int) ∧ ∀ (k : Nat), k ≤ List.length l → List.take k l = List.take k m → (decide ((↑k : Int) < (↑(List.length l) : Int)) = true → ((0 : Int) ≤ (↑k : Int) ∧ (↑k : Int) < (↑(List.length l) : Int)) ∧ ((0 : Int) ≤ (↑k : Int) ∧ (↑k : Int) < (↑(List.length m) : Int)) ∧ ((!(Msg.ext (List.getD l (Int.toNat (↑k : Int)) (d_msg)) == Msg.ext (List.getD m (Int.toNat (↑k : Int)) (d_msg)) && Msg.id (List.getD l (Int.toNat (↑k : Int)) (d_msg)) == Msg.id (List.getD m (Int.toNat (↑k : Int)) (d_msg)) && (Msg.sender (List.getD l (Int.toNat (↑k : Int)) (d_msg)) == Msg.sender (List.getD m (Int.toNat (↑k : Int)) (d_msg)) && (Msg.inc (List.getD l (Int.toNat (↑k : Int)) (d_msg)) == Msg.inc (List.getD m (Int.toNat (↑k : Int)) (d_msg)) && (Msg.seq (List.getD l (Int.toNat (↑k : Int)) (d_msg)) == Msg.seq (List.getD m (Int.toNat (↑k : Int)) (d_msg)) && (Msg.number (List.getD l (Int.toNat (↑k : Int)) (d_msg)) == Msg.number (List.getD m (Int.toNat (↑k : Int)) (d_msg)) && Msg.data (List.getD l (Int.toNat (↑k : Int)) (d_msg)) == Msg.data (List.getD m (Int.toNat (↑k : Int)) (d_msg)))))))) = true → Out.one (U := U) (D.mk false [CV.v (Value.bool false)]) = Out.one (U := U) (D.mk false [CV.v (Value.bool (msgsEq l m))])) ∧ ((!(Msg.ext (List.getD l (Int.toNat (↑k : Int)) (d_msg)) == Msg.ext (List.getD m (Int.toNat (↑k : Int)) (d_msg)) && Msg.id (List.getD l (Int.toNat (↑k : Int)) (d_msg)) == Msg.id (List.getD m (Int.toNat (↑k : Int)) (d_msg)) && (Msg.sender (List.getD l (Int.toNat (↑k : Int)) (d_msg)) == Msg.sender (List.getD m (Int.toNat (↑k : Int)) (d_msg)) && (Msg.inc (List.getD l (Int.toNat (↑k : Int)) (d_msg)) == Msg.inc (List.getD m (Int.toNat (↑k : Int)) (d_msg)) && (Msg.seq (List.getD l (Int.toNat (↑k : Int)) (d_msg)) == Msg.seq (List.getD m (Int.toNat (↑k : Int)) (d_msg)) && (Msg.number (List.getD l (Int.toNat (↑k : Int)) (d_msg)) == Msg.number (List.getD m (Int.toNat (↑k : Int)) (d_msg)) && Msg.data (List.getD l (Int.toNat (↑k : Int)) (d_msg)) == Msg.data (List.getD m (Int.toNat (↑k : Int)) (d_msg)))))))) = false → k < List.length l ∧ List.take (k + (1 : Nat)) l = List.take (k + (1 : Nat)) m ∧ Value.int IntKind.i64 (wrap64 ((↑k : Int) + (1 : Int))) = Value.int IntKind.i64 (↑(k + (1 : Nat)) : Int))) ∧ (decide ((↑k : Int) < (↑(List.length l) : Int)) = false → Out.one (U := U) (D.mk false [CV.v (Value.bool true)]) = Out.one (U := U) (D.mk false [CV.v (Value.bool (msgsEq l m))]))), by kernel_rfl, ?_⟩
      refine ⟨fun h => ?_, fun h => ⟨rfl, rfl, fun k hk hik => ⟨fun hlt => ?_, fun hge => ?_⟩⟩⟩
      · have hne : ¬ l = m := fun e => by subst e; simp at h
        simp only [Out.one.injEq, Out.tup.injEq, D.mk.injEq, List.cons.injEq, CV.v.injEq, CV.sl.injEq, Value.bool.injEq, Value.int.injEq, Value.string.injEq, and_true, true_and, heq_eq_eq]
        exact (decide_eq_false hne).symm
      · have hlt : k < l.length := by have := of_decide_eq_true hlt; omega
        have hll : l.length = m.length := by
          have : ((l.length : Int) == (m.length : Int)) = true := by rw [bne, Bool.not_eq_false'] at h; exact h
          have := eq_of_beq this
          omega
        rw [getD_at l k _ hlt, getD_at m k _ (by omega), msg_eq]
        refine ⟨by omega, by omega, fun ho => ?_, fun ho => ⟨hlt, ?_, ?_⟩⟩
        · have hne : ¬ l = m := fun e => by subst e; simp at ho
          simp only [Out.one.injEq, Out.tup.injEq, D.mk.injEq, List.cons.injEq, CV.v.injEq, CV.sl.injEq, Value.bool.injEq, Value.int.injEq, Value.string.injEq, and_true, true_and, heq_eq_eq]
          exact (decide_eq_false hne).symm
        · have hx : l[k] = m[k] := by simpa using ho
          rw [List.take_succ_eq_append_getElem hlt, List.take_succ_eq_append_getElem (by omega), hik, hx]
        · rw [w64 (by omega)]; rfl
      · have hge := of_decide_eq_false hge
        have hll : l.length = m.length := by
          have : ((l.length : Int) == (m.length : Int)) = true := by rw [bne, Bool.not_eq_false'] at h; exact h
          have := eq_of_beq this
          omega
        have e1 : l.take k = l := List.take_of_length_le (by omega)
        have e2 : m.take k = m := List.take_of_length_le (by omega)
        rw [e1, e2] at hik
        simp only [Out.one.injEq, Out.tup.injEq, D.mk.injEq, List.cons.injEq, CV.v.injEq, CV.sl.injEq, Value.bool.injEq, Value.int.injEq, Value.string.injEq, and_true, true_and, heq_eq_eq]
        exact (decide_eq_true hik).symm
    · cases hg

end Go.Proofs.YtdpoimomipdgjaaDoor.X

/- Which messages may be. -/
import Derived.Test.YtdpoimomipdgjaaDoorRIdent
namespace Go.Proofs.YtdpoimomipdgjaaDoor.X
open Go Go.RX Go.RowKit Go.Proofs
set_option linter.unusedVariables false
set_option linter.unusedSimpArgs false
def sm (n : Int) : Bool := decide (1 ≤ n ∧ n ≤ 65535)
def msgR (x : Msg) : Bool := right x.ext x.id && decide (0 ≤ x.sender ∧ x.sender < 16) && sm x.inc && sm x.seq && sm x.number && decide ((x.data.size : Int) ≤ 8)
def small_S : RX.Spec U := fun
  | [⟨false, [.v (.int .i64 n)]⟩] => some ⟨none, (.one ⟨false, [.v (.bool (sm n))]⟩)⟩
  | _ => none

theorem small_ok : ConOk Tryd.prog U GV 64 small_S :=
  fn_go gs ty glok conNil Tryd.func64 (by kernel_rfl) fun ds r hg hp => by
    unfold small_S at hg
    split at hg
    · rename_i n
      cases hg
      refine ⟨fun _ _ => none, Out.one (U := U) (D.mk false [CV.v (Value.bool (decide ((1 : Int) ≤ n) && decide (n ≤ (65535 : Int))))]) = Out.one (U := U) (D.mk false [CV.v (Value.bool (sm n))]), by kernel_rfl, ?_⟩
      simp only [Out.one.injEq, Out.tup.injEq, D.mk.injEq, List.cons.injEq, CV.v.injEq, CV.sl.injEq, Value.bool.injEq, Value.int.injEq, Value.string.injEq, and_true, true_and, heq_eq_eq]
      simp [sm, Bool.decide_and]
    · cases hg

def msgRight_S : RX.Spec U := fun
  | [⟨true, [.v (.bool e), .v (.int .i64 n), .v (.int .i64 sd), .v (.int .i64 ic), .v (.int .i64 sq), .v (.int .i64 nm), .v (.string dt)]⟩] => some ⟨none, (.one ⟨false, [.v (.bool (msgR ⟨e, n, sd, ic, sq, nm, dt⟩))]⟩)⟩
  | _ => none

theorem msgRight_ok : ConOk Tryd.prog U GV 36 msgRight_S :=
  fn_go gs ty glok (conCons Right_ok (conCons small_ok conNil)) Tryd.func36 (by kernel_rfl) fun ds r hg hp => by
    unfold msgRight_S at hg
    split at hg
    · rename_i e n sd ic sq nm dt
      cases hg
      refine ⟨fun _ _ => none, Out.one (U := U) (D.mk false [CV.v (Value.bool (right e n && decide ((0 : Int) ≤ sd) && decide (sd < (16 : Int)) && sm ic && sm sq && sm nm && decide ((↑(ByteArray.size dt) : Int) ≤ (8 : Int))))]) = Out.one (U := U) (D.mk false [CV.v (Value.bool (msgR (Msg.mk e n sd ic sq nm dt)))]), by kernel_rfl, ?_⟩
      simp only [Out.one.injEq, Out.tup.injEq, D.mk.injEq, List.cons.injEq, CV.v.injEq, CV.sl.injEq, Value.bool.injEq, Value.int.injEq, Value.string.injEq, and_true, true_and, heq_eq_eq]
      simp [msgR, Bool.decide_and, Bool.and_assoc]
    · cases hg

theorem msg_eq (x y : Msg) : (x.ext == y.ext && x.id == y.id && (x.sender == y.sender && (x.inc == y.inc && (x.seq == y.seq && (x.number == y.number && x.data == y.data))))) = decide (x = y) := by
  obtain ⟨a, b, c, d, e, f, g⟩ := x
  obtain ⟨a', b', c', d', e', f', g'⟩ := y
  rw [Bool.eq_iff_iff]
  simp only [Bool.and_eq_true, beq_iff_eq, ba_beq, decide_eq_true_eq, Msg.mk.injEq, and_assoc]
def msgsEq (l m : List Msg) : Bool := decide (l = m)
end Go.Proofs.YtdpoimomipdgjaaDoor.X

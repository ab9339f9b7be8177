/- The document's answer for fifos. -/
import Derived.Test.YtdepagelkocldaaDoorRRef04
import Derived.Test.YtdepagelkocldaaDoorRFifo
namespace Go.Proofs.YtdepagelkocldaaDoor.X
open Go Go.RX Go.RowKit Go.Proofs
set_option linter.unusedVariables false
set_option linter.unusedSimpArgs false
def rNew_S : RX.Spec U := fun
  | [⟨false, [.v (.int .i64 n)]⟩] => some ⟨none, (.tup [⟨true, [.v (.int .i64 (if newB n = true then n else 0)), .v (.int .i64 0), .sl .msg ([])]⟩, ⟨false, [.v (.int .i64 (errI (newB n) 1))]⟩])⟩
  | _ => none

theorem rNew_ok : ConOk Tryd.prog U GV 10 rNew_S :=
  fn_go gs ty glok conNil Tryd.func10 (by kernel_rfl) fun ds r hg hp => by
    unfold rNew_S at hg
    split at hg
    · rename_i n
      cases hg
      refine ⟨fun _ _ => none, ((decide (n < (1 : Int)) || decide ((32 : Int) < n)) = true → Out.tup (U := U) [D.mk true [CV.v (Value.int IntKind.i64 (0 : Int)), CV.v (Value.int IntKind.i64 (0 : Int)), CV.sl Kind.msg []], D.mk false [CV.v (Value.int IntKind.i64 (1 : Int))]] = Out.tup (U := U) [D.mk true [CV.v (Value.int IntKind.i64 (if newB n = true then n else (0 : Int))), CV.v (Value.int IntKind.i64 (0 : Int)), CV.sl Kind.msg []], D.mk false [CV.v (Value.int IntKind.i64 (errI (newB n) (1 : Int)))]]) ∧ ((decide (n < (1 : Int)) || decide ((32 : Int) < n)) = false → Out.tup (U := U) [D.mk true [CV.v (Value.int IntKind.i64 n), CV.v (Value.int IntKind.i64 (0 : Int)), CV.sl Kind.msg []], D.mk false [CV.v (Value.int IntKind.i64 (0 : Int))]] = Out.tup (U := U) [D.mk true [CV.v (Value.int IntKind.i64 (if newB n = true then n else (0 : Int))), CV.v (Value.int IntKind.i64 (0 : Int)), CV.sl Kind.msg []], D.mk false [CV.v (Value.int IntKind.i64 (errI (newB n) (1 : Int)))]]), by kernel_rfl, ?_⟩
      refine ⟨fun h => ?_, fun h => ?_⟩
      · have hb : newB n = false := by simp [newB] at h ⊢; omega
        simp only [Out.one.injEq, Out.tup.injEq, D.mk.injEq, List.cons.injEq, CV.v.injEq, CV.sl.injEq, Value.bool.injEq, Value.int.injEq, Value.string.injEq, and_true, true_and, heq_eq_eq]
        simp [hb, errI]
      · have hb : newB n = true := by simp [newB] at h ⊢; omega
        simp only [Out.one.injEq, Out.tup.injEq, D.mk.injEq, List.cons.injEq, CV.v.injEq, CV.sl.injEq, Value.bool.injEq, Value.int.injEq, Value.string.injEq, and_true, true_and, heq_eq_eq]
        simp [hb, errI]
    · cases hg

def rFRight_S : RX.Spec U := fun
  | [⟨true, [.v (.int .i64 lm), .v (.int .i64 ls), .sl .msg l]⟩] => some ⟨none, (.one ⟨false, [.v (.bool (fifoR ⟨lm, ls, l⟩))]⟩)⟩
  | _ => none

theorem rFRight_ok : ConOk Tryd.prog U GV 20 rFRight_S :=
  fn_go gs ty glok (conCons rmsgRight_ok conNil) Tryd.func20 (by kernel_rfl) fun ds r hg hp => by
    unfold rFRight_S at hg
    split at hg
    · rename_i lm ls l
      obtain ⟨l, rfl⟩ : ∃ q_ : List Msg, q_ = l := ⟨l, rfl⟩
      cases hg
      refine ⟨fun st key => if key = 4 then some { N := l.length, mods := fun k => [.tv 3 (.int .i64 (k : Int))], inv := fun k => (l.take k).all msgR = true } else none, ((decide (lm < (1 : Int)) || decide ((32 : Int) < lm) || decide (lm < (↑(List.length l) : Int)) || decide (ls < (0 : Int)) || decide ((65535 : Int) < ls)) = true → Out.one (U := U) (D.mk false [CV.v (Value.bool false)]) = Out.one (U := U) (D.mk false [CV.v (Value.bool (fifoR (Fifo.mk lm ls l)))])) ∧ ((decide (lm < (1 : Int)) || decide ((32 : Int) < lm) || decide (lm < (↑(List.length l) : Int)) || decide (ls < (0 : Int)) || decide ((65535 : Int) < ls)) = false → true = true ∧ Value.int IntKind.i64 (0 : Int) = Value.int IntKind.i64 (0 : Int) ∧ ∀ (k : Nat), k ≤ List.length l → List.all (List.take k l) msgR = true → (decide ((↑k : Int) < (↑(List.length l) : Int)) = true → ((0 : Int) ≤ (↑k : Int) ∧ (↑k : Int) < (↑(List.length l) : Int)) ∧ ((!msgR (List.getD l (Int.toNat (↑k : Int)) (d_msg))) = true → Out.one (U := U) (D.mk false [CV.v (Value.bool false)]) = Out.one (U := U) (D.mk false [CV.v (Value.bool (fifoR (Fifo.mk lm ls l)))])) ∧ ((!msgR (List.getD l (Int.toNat (↑k : Int)) (d_msg))) = false → k < List.length l ∧ List.all (List.take (k + (1 : Nat)) l) msgR = true ∧ Value.int IntKind.i64 (wrap64 ((↑k : Int) + (1 : Int))) = Value.int IntKind.i64 (↑(k + (1 : Nat)) : Int))) ∧ (decide ((↑k : Int) < (↑(List.length l) : Int)) = false → Out.one (U := U) (D.mk false [CV.v (Value.bool true)]) = Out.one (U := U) (D.mk false [CV.v (Value.bool (fifoR (Fifo.mk lm ls l)))]))), by kernel_rfl, ?_⟩
      have hF : fifoR ⟨lm, ls, l⟩ = (!(decide (lm < (1 : Int)) || decide ((32 : Int) < lm) || decide (lm < (↑(List.length l) : Int)) || decide (ls < (0 : Int)) || decide ((65535 : Int) < ls)) && l.all msgR) := by
        have e1 : ∀ a b : Int, decide (a ≤ b) = !decide (b < a) := fun a b => by by_cases h : a ≤ b <;> simp [h] <;> omega
        simp only [fifoR, Bool.decide_and, e1, Bool.not_or, Bool.and_assoc]
      rw [hF]
      refine ⟨fun h => ?_, fun h => ⟨rfl, rfl, fun k hk hik => ⟨fun hlt => ?_, fun hge => ?_⟩⟩⟩
      · simp only [Out.one.injEq, Out.tup.injEq, D.mk.injEq, List.cons.injEq, CV.v.injEq, CV.sl.injEq, Value.bool.injEq, Value.int.injEq, Value.string.injEq, and_true, true_and, heq_eq_eq]
        rw [h]
        rfl
      · have hlt : k < l.length := by have := of_decide_eq_true hlt; omega
        have hb := h
        simp only [Bool.or_eq_false_iff, decide_eq_false_iff_not] at hb
        rw [getD_at l k _ hlt]
        refine ⟨⟨by omega, by omega⟩, fun ho => ?_, fun ho => ⟨hlt, ?_, ?_⟩⟩
        · have hall : l.all msgR = false := List.all_eq_false.mpr ⟨l[k], List.getElem_mem hlt, by simpa using ho⟩
          simp only [Out.one.injEq, Out.tup.injEq, D.mk.injEq, List.cons.injEq, CV.v.injEq, CV.sl.injEq, Value.bool.injEq, Value.int.injEq, Value.string.injEq, and_true, true_and, heq_eq_eq]
          rw [hall, h]
          rfl
        · have : l.take (k + 1) = l.take k ++ [l[k]] := by rw [List.take_succ_eq_append_getElem hlt]
          rw [this, List.all_append, hik]
          simpa using ho
        · rw [w64 (by omega)]; rfl
      · have hge := of_decide_eq_false hge
        have : l.take k = l := List.take_of_length_le (by omega)
        rw [this] at hik
        simp only [Out.one.injEq, Out.tup.injEq, D.mk.injEq, List.cons.injEq, CV.v.injEq, CV.sl.injEq, Value.bool.injEq, Value.int.injEq, Value.string.injEq, and_true, true_and, heq_eq_eq]
        rw [hik, h]
        rfl
    · cases hg

def rOwn_S : RX.Spec U := fun
  | [⟨true, [.v (.int .i64 lm), .v (.int .i64 ls), .sl .msg l]⟩] => some ⟨some (l.length ≤ 1000000), (.one ⟨true, [.v (.int .i64 lm), .v (.int .i64 ls), .sl .msg l]⟩)⟩
  | _ => none

theorem rOwn_ok : ConOk Tryd.prog U GV 13 rOwn_S :=
  fn_go gs ty glok conNil Tryd.func13 (by kernel_rfl) fun ds r hg hp => by
    unfold rOwn_S at hg
    split at hg
    · rename_i lm ls l
      obtain ⟨l, rfl⟩ : ∃ q_ : List Msg, q_ = l := ⟨l, rfl⟩
      cases hg
      replace hp : (l.length ≤ 1000000) := hp
      refine ⟨fun _ _ => none, (0 : Nat) + List.length l ≤ (1000000 : Nat) ∧ Out.one (U := U) (D.mk true [CV.v (Value.int IntKind.i64 lm), CV.v (Value.int IntKind.i64 ls), CV.sl Kind.msg ([] ++ l)]) = Out.one (U := U) (D.mk true [CV.v (Value.int IntKind.i64 lm), CV.v (Value.int IntKind.i64 ls), CV.sl Kind.msg l]), by kernel_rfl, ?_⟩
      exact ⟨by omega, rfl⟩
    · cases hg

def rTake_S : RX.Spec U := fun
  | [⟨true, [.v (.int .i64 lm), .v (.int .i64 ls), .sl .msg l]⟩] => some ⟨some (l.length ≤ 1000000), (.tup [⟨true, [.v (.int .i64 lm), .v (.int .i64 ls), .sl .msg (takM ⟨lm, ls, l⟩)]⟩, ⟨true, [.v (.bool ((takX ⟨lm, ls, l⟩).ext)), .v (.int .i64 ((takX ⟨lm, ls, l⟩).id)), .v (.int .i64 ((takX ⟨lm, ls, l⟩).sender)), .v (.int .i64 ((takX ⟨lm, ls, l⟩).inc)), .v (.int .i64 ((takX ⟨lm, ls, l⟩).seq)), .v (.int .i64 ((takX ⟨lm, ls, l⟩).number)), .v (.string ((takX ⟨lm, ls, l⟩).data))]⟩, ⟨false, [.v (.int .i64 (takE ⟨lm, ls, l⟩))]⟩])⟩
  | _ => none

theorem rTake_ok : ConOk Tryd.prog U GV 16 rTake_S :=
  fn_go gs ty glok (conCons rFRight_ok (conCons rOwn_ok conNil)) Tryd.func16 (by kernel_rfl) fun ds r hg hp => by
    unfold rTake_S at hg
    split at hg
    · rename_i lm ls l
      obtain ⟨l, rfl⟩ : ∃ q_ : List Msg, q_ = l := ⟨l, rfl⟩
      cases hg
      replace hp : (l.length ≤ 1000000) := hp
      refine ⟨fun _ _ => none, ((!fifoR (Fifo.mk lm ls l)) = true → List.length l ≤ (1000000 : Nat) ∧ Out.tup (U := U) [D.mk true [CV.v (Value.int IntKind.i64 lm), CV.v (Value.int IntKind.i64 ls), CV.sl Kind.msg l], D.mk true [CV.v (Value.bool false), CV.v (Value.int IntKind.i64 (0 : Int)), CV.v (Value.int IntKind.i64 (0 : Int)), CV.v (Value.int IntKind.i64 (0 : Int)), CV.v (Value.int IntKind.i64 (0 : Int)), CV.v (Value.int IntKind.i64 (0 : Int)), CV.v (Value.string (ByteArray.mk (Array.mk [])))], D.mk false [CV.v (Value.int IntKind.i64 (1 : Int))]] = Out.tup (U := U) [D.mk true [CV.v (Value.int IntKind.i64 lm), CV.v (Value.int IntKind.i64 ls), CV.sl Kind.msg (takM (Fifo.mk lm ls l))], D.mk true [CV.v (Value.bool (Msg.ext (takX (Fifo.mk lm ls l)))), CV.v (Value.int IntKind.i64 (Msg.id (takX (Fifo.mk lm ls l)))), CV.v (Value.int IntKind.i64 (Msg.sender (takX (Fifo.mk lm ls l)))), CV.v (Value.int IntKind.i64 (Msg.inc (takX (Fifo.mk lm ls l)))), CV.v (Value.int IntKind.i64 (Msg.seq (takX (Fifo.mk lm ls l)))), CV.v (Value.int IntKind.i64 (Msg.number (takX (Fifo.mk lm ls l)))), CV.v (Value.string (Msg.data (takX (Fifo.mk lm ls l))))], D.mk false [CV.v (Value.int IntKind.i64 (takE (Fifo.mk lm ls l)))]]) ∧ ((!fifoR (Fifo.mk lm ls l)) = false → (((↑(List.length l) : Int) == (0 : Int)) = true → List.length l ≤ (1000000 : Nat) ∧ Out.tup (U := U) [D.mk true [CV.v (Value.int IntKind.i64 lm), CV.v (Value.int IntKind.i64 ls), CV.sl Kind.msg l], D.mk true [CV.v (Value.bool false), CV.v (Value.int IntKind.i64 (0 : Int)), CV.v (Value.int IntKind.i64 (0 : Int)), CV.v (Value.int IntKind.i64 (0 : Int)), CV.v (Value.int IntKind.i64 (0 : Int)), CV.v (Value.int IntKind.i64 (0 : Int)), CV.v (Value.string (ByteArray.mk (Array.mk [])))], D.mk false [CV.v (Value.int IntKind.i64 (41 : Int))]] = Out.tup (U := U) [D.mk true [CV.v (Value.int IntKind.i64 lm), CV.v (Value.int IntKind.i64 ls), CV.sl Kind.msg (takM (Fifo.mk lm ls l))], D.mk true [CV.v (Value.bool (Msg.ext (takX (Fifo.mk lm ls l)))), CV.v (Value.int IntKind.i64 (Msg.id (takX (Fifo.mk lm ls l)))), CV.v (Value.int IntKind.i64 (Msg.sender (takX (Fifo.mk lm ls l)))), CV.v (Value.int IntKind.i64 (Msg.inc (takX (Fifo.mk lm ls l)))), CV.v (Value.int IntKind.i64 (Msg.seq (takX (Fifo.mk lm ls l)))), CV.v (Value.int IntKind.i64 (Msg.number (takX (Fifo.mk lm ls l)))), CV.v (Value.string (Msg.data (takX (Fifo.mk lm ls l))))], D.mk false [CV.v (Value.int IntKind.i64 (takE (Fifo.mk lm ls l)))]]) ∧ (((↑(List.length l) : Int) == (0 : Int)) = false → ((0 : Int) ≤ (1 : Int) ∧ (1 : Int) ≤ (↑(List.length l) : Int)) ∧ (0 : Nat) + List.length (List.drop (1 : Nat) l) ≤ (1000000 : Nat) ∧ ((0 : Int) ≤ (0 : Int) ∧ (0 : Int) < (↑(List.length l) : Int)) ∧ Out.tup (U := U) [D.mk true [CV.v (Value.int IntKind.i64 lm), CV.v (Value.int IntKind.i64 ls), CV.sl Kind.msg ([] ++ List.drop (1 : Nat) l)], D.mk true [CV.v (Value.bool (Msg.ext (List.getD l (0 : Nat) (d_msg)))), CV.v (Value.int IntKind.i64 (Msg.id (List.getD l (0 : Nat) (d_msg)))), CV.v (Value.int IntKind.i64 (Msg.sender (List.getD l (0 : Nat) (d_msg)))), CV.v (Value.int IntKind.i64 (Msg.inc (List.getD l (0 : Nat) (d_msg)))), CV.v (Value.int IntKind.i64 (Msg.seq (List.getD l (0 : Nat) (d_msg)))), CV.v (Value.int IntKind.i64 (Msg.number (List.getD l (0 : Nat) (d_msg)))), CV.v (Value.string (Msg.data (List.getD l (0 : Nat) (d_msg))))], D.mk false [CV.v (Value.int IntKind.i64 (0 : Int))]] = Out.tup (U := U) [D.mk true [CV.v (Value.int IntKind.i64 lm), CV.v (Value.int IntKind.i64 ls), CV.sl Kind.msg (takM (Fifo.mk lm ls l))], D.mk true [CV.v (Value.bool (Msg.ext (takX (Fifo.mk lm ls l)))), CV.v (Value.int IntKind.i64 (Msg.id (takX (Fifo.mk lm ls l)))), CV.v (Value.int IntKind.i64 (Msg.sender (takX (Fifo.mk lm ls l)))), CV.v (Value.int IntKind.i64 (Msg.inc (takX (Fifo.mk lm ls l)))), CV.v (Value.int IntKind.i64 (Msg.seq (takX (Fifo.mk lm ls l)))), CV.v (Value.int IntKind.i64 (Msg.number (takX (Fifo.mk lm ls l)))), CV.v (Value.string (Msg.data (takX (Fifo.mk lm ls l))))], D.mk false [CV.v (Value.int IntKind.i64 (takE (Fifo.mk lm ls l)))]])), by kernel_rfl, ?_⟩
      refine ⟨fun h1 => ⟨hp, ?_⟩, fun h1 => ⟨fun h2 => ⟨hp, ?_⟩, fun h2 => ?_⟩⟩
      · simp only [Out.one.injEq, Out.tup.injEq, D.mk.injEq, List.cons.injEq, CV.v.injEq, CV.sl.injEq, Value.bool.injEq, Value.int.injEq, Value.string.injEq, and_true, true_and, heq_eq_eq]; simp at h1; simp [h1, takE, takM, takX, d_msg, dfltMsg]; (first | rfl | (and_intros <;> rfl))
      · simp only [Out.one.injEq, Out.tup.injEq, D.mk.injEq, List.cons.injEq, CV.v.injEq, CV.sl.injEq, Value.bool.injEq, Value.int.injEq, Value.string.injEq, and_true, true_and, heq_eq_eq]; simp at h1 h2; subst h2; simp [h1, takE, takM, takX, d_msg, dfltMsg]; (first | rfl | (and_intros <;> rfl))
      · simp at h1 h2
        have hl : 0 < l.length := List.length_pos_iff.mpr h2
        have t1 : takM ⟨lm, ls, l⟩ = l.drop 1 := if_pos h1
        have t2 : takX ⟨lm, ls, l⟩ = l.getD 0 d_msg := if_pos h1
        have t3 : takE ⟨lm, ls, l⟩ = 0 := by unfold takE; rw [if_pos h1, if_neg (show ¬ l.length = 0 by omega)]
        rw [t1, t2, t3]
        exact ⟨⟨by omega, by omega⟩, by rw [List.length_drop]; omega, ⟨by omega, by omega⟩, rfl⟩
    · cases hg

def rLost_S : RX.Spec U := fun
  | [⟨true, [.v (.int .i64 lm), .v (.int .i64 ls), .sl .msg l]⟩] => some ⟨some (l.length ≤ 1000000), (.tup [⟨true, [.v (.int .i64 lm), .v (.int .i64 (if fifoR ⟨lm, ls, l⟩ = true then 0 else ls)), .sl .msg l]⟩, ⟨false, [.v (.int .i64 (if fifoR ⟨lm, ls, l⟩ = true then ls else 0))]⟩, ⟨false, [.v (.int .i64 (errI (fifoR ⟨lm, ls, l⟩) 1))]⟩])⟩
  | _ => none

theorem rLost_ok : ConOk Tryd.prog U GV 18 rLost_S :=
  fn_go gs ty glok (conCons rFRight_ok (conCons rOwn_ok conNil)) Tryd.func18 (by kernel_rfl) fun ds r hg hp => by
    unfold rLost_S at hg
    split at hg
    · rename_i lm ls l
      obtain ⟨l, rfl⟩ : ∃ q_ : List Msg, q_ = l := ⟨l, rfl⟩
      cases hg
      replace hp : (l.length ≤ 1000000) := hp
      refine ⟨fun _ _ => none, List.length l ≤ (1000000 : Nat) ∧ ((!fifoR (Fifo.mk lm ls l)) = true → Out.tup (U := U) [D.mk true [CV.v (Value.int IntKind.i64 lm), CV.v (Value.int IntKind.i64 ls), CV.sl Kind.msg l], D.mk false [CV.v (Value.int IntKind.i64 (0 : Int))], D.mk false [CV.v (Value.int IntKind.i64 (1 : Int))]] = Out.tup (U := U) [D.mk true [CV.v (Value.int IntKind.i64 lm), CV.v (Value.int IntKind.i64 (if fifoR (Fifo.mk lm ls l) = true then (0 : Int) else ls)), CV.sl Kind.msg l], D.mk false [CV.v (Value.int IntKind.i64 (if fifoR (Fifo.mk lm ls l) = true then ls else (0 : Int)))], D.mk false [CV.v (Value.int IntKind.i64 (errI (fifoR (Fifo.mk lm ls l)) (1 : Int)))]]) ∧ ((!fifoR (Fifo.mk lm ls l)) = false → Out.tup (U := U) [D.mk true [CV.v (Value.int IntKind.i64 lm), CV.v (Value.int IntKind.i64 (0 : Int)), CV.sl Kind.msg l], D.mk false [CV.v (Value.int IntKind.i64 ls)], D.mk false [CV.v (Value.int IntKind.i64 (0 : Int))]] = Out.tup (U := U) [D.mk true [CV.v (Value.int IntKind.i64 lm), CV.v (Value.int IntKind.i64 (if fifoR (Fifo.mk lm ls l) = true then (0 : Int) else ls)), CV.sl Kind.msg l], D.mk false [CV.v (Value.int IntKind.i64 (if fifoR (Fifo.mk lm ls l) = true then ls else (0 : Int)))], D.mk false [CV.v (Value.int IntKind.i64 (errI (fifoR (Fifo.mk lm ls l)) (1 : Int)))]]), by kernel_rfl, ?_⟩
      refine ⟨hp, fun h1 => ?_, fun h1 => ?_⟩ <;> (simp only [Out.one.injEq, Out.tup.injEq, D.mk.injEq, List.cons.injEq, CV.v.injEq, CV.sl.injEq, Value.bool.injEq, Value.int.injEq, Value.string.injEq, and_true, true_and, heq_eq_eq]; simp at h1; simp [h1, errI])
    · cases hg

def rOffer_S : RX.Spec U := fun
  | [⟨true, [.v (.int .i64 lm), .v (.int .i64 ls), .sl .msg l]⟩, ⟨true, [.v (.bool e), .v (.int .i64 n), .v (.int .i64 sd), .v (.int .i64 ic), .v (.int .i64 sq), .v (.int .i64 nm), .v (.string dt)]⟩, ⟨false, [.sl .filter fl]⟩] => some ⟨some ((l.length ≤ 1000000 ∧ fl.length ≤ 1000)), (.tup [⟨true, [.v (.int .i64 lm), .v (.int .i64 (offL ⟨lm, ls, l⟩ ⟨e, n, sd, ic, sq, nm, dt⟩ fl)), .sl .msg (offM ⟨lm, ls, l⟩ ⟨e, n, sd, ic, sq, nm, dt⟩ fl)]⟩, ⟨false, [.v (.int .i64 (offH ⟨lm, ls, l⟩ ⟨e, n, sd, ic, sq, nm, dt⟩ fl))]⟩, ⟨false, [.v (.int .i64 (errI (fifoR ⟨lm, ls, l⟩ && msgR ⟨e, n, sd, ic, sq, nm, dt⟩) 1))]⟩])⟩
  | _ => none

theorem rOffer_ok : ConOk Tryd.prog U GV 24 rOffer_S :=
  fn_go gs ty glok (conCons rFRight_ok (conCons rmsgRight_ok (conCons rAny_ok conNil))) Tryd.func24 (by kernel_rfl) fun ds r hg hp => by
    unfold rOffer_S at hg
    split at hg
    · rename_i lm ls l e n sd ic sq nm dt fl
      obtain ⟨l, rfl⟩ : ∃ q_ : List Msg, q_ = l := ⟨l, rfl⟩
      obtain ⟨fl, rfl⟩ : ∃ q_ : List Filter, q_ = fl := ⟨fl, rfl⟩
      cases hg
      replace hp : ((l.length ≤ 1000000 ∧ fl.length ≤ 1000)) := hp
      refine ⟨fun _ _ => none, (0 : Nat) + List.length l ≤ (1000000 : Nat) ∧ ((!fifoR (Fifo.mk lm ls l) || !msgR (Msg.mk e n sd ic sq nm dt)) = true → Out.tup (U := U) [D.mk true [CV.v (Value.int IntKind.i64 lm), CV.v (Value.int IntKind.i64 ls), CV.sl Kind.msg ([] ++ l)], D.mk false [CV.v (Value.int IntKind.i64 (0 : Int))], D.mk false [CV.v (Value.int IntKind.i64 (1 : Int))]] = Out.tup (U := U) [D.mk true [CV.v (Value.int IntKind.i64 lm), CV.v (Value.int IntKind.i64 (offL (Fifo.mk lm ls l) (Msg.mk e n sd ic sq nm dt) fl)), CV.sl Kind.msg (offM (Fifo.mk lm ls l) (Msg.mk e n sd ic sq nm dt) fl)], D.mk false [CV.v (Value.int IntKind.i64 (offH (Fifo.mk lm ls l) (Msg.mk e n sd ic sq nm dt) fl))], D.mk false [CV.v (Value.int IntKind.i64 (errI (fifoR (Fifo.mk lm ls l) && msgR (Msg.mk e n sd ic sq nm dt)) (1 : Int)))]]) ∧ ((!fifoR (Fifo.mk lm ls l) || !msgR (Msg.mk e n sd ic sq nm dt)) = false → List.length fl ≤ (1000 : Nat) ∧ ((!anyB e n fl) = true → Out.tup (U := U) [D.mk true [CV.v (Value.int IntKind.i64 lm), CV.v (Value.int IntKind.i64 ls), CV.sl Kind.msg ([] ++ l)], D.mk false [CV.v (Value.int IntKind.i64 (0 : Int))], D.mk false [CV.v (Value.int IntKind.i64 (0 : Int))]] = Out.tup (U := U) [D.mk true [CV.v (Value.int IntKind.i64 lm), CV.v (Value.int IntKind.i64 (offL (Fifo.mk lm ls l) (Msg.mk e n sd ic sq nm dt) fl)), CV.sl Kind.msg (offM (Fifo.mk lm ls l) (Msg.mk e n sd ic sq nm dt) fl)], D.mk false [CV.v (Value.int IntKind.i64 (offH (Fifo.mk lm ls l) (Msg.mk e n sd ic sq nm dt) fl))], D.mk false [CV.v (Value.int IntKind.i64 (errI (fifoR (Fifo.mk lm ls l) && msgR (Msg.mk e n sd ic sq nm dt)) (1 : Int)))]]) ∧ ((!anyB e n fl) = false → (decide (lm ≤ (↑(List.length l) : Int)) = true → Out.tup (U := U) [D.mk true [CV.v (Value.int IntKind.i64 lm), CV.v (Value.int IntKind.i64 (if (65535 : Int) < wrap64 (ls + (1 : Int)) then (65535 : Int) else wrap64 (ls + (1 : Int)))), CV.sl Kind.msg ([] ++ l)], D.mk false [CV.v (Value.int IntKind.i64 (2 : Int))], D.mk false [CV.v (Value.int IntKind.i64 (0 : Int))]] = Out.tup (U := U) [D.mk true [CV.v (Value.int IntKind.i64 lm), CV.v (Value.int IntKind.i64 (offL (Fifo.mk lm ls l) (Msg.mk e n sd ic sq nm dt) fl)), CV.sl Kind.msg (offM (Fifo.mk lm ls l) (Msg.mk e n sd ic sq nm dt) fl)], D.mk false [CV.v (Value.int IntKind.i64 (offH (Fifo.mk lm ls l) (Msg.mk e n sd ic sq nm dt) fl))], D.mk false [CV.v (Value.int IntKind.i64 (errI (fifoR (Fifo.mk lm ls l) && msgR (Msg.mk e n sd ic sq nm dt)) (1 : Int)))]]) ∧ (decide (lm ≤ (↑(List.length l) : Int)) = false → List.length ([] ++ l) + List.length [Msg.mk e n sd ic sq nm dt] ≤ (1000000 : Nat) ∧ Out.tup (U := U) [D.mk true [CV.v (Value.int IntKind.i64 lm), CV.v (Value.int IntKind.i64 ls), CV.sl Kind.msg ([] ++ l ++ [Msg.mk e n sd ic sq nm dt])], D.mk false [CV.v (Value.int IntKind.i64 (1 : Int))], D.mk false [CV.v (Value.int IntKind.i64 (0 : Int))]] = Out.tup (U := U) [D.mk true [CV.v (Value.int IntKind.i64 lm), CV.v (Value.int IntKind.i64 (offL (Fifo.mk lm ls l) (Msg.mk e n sd ic sq nm dt) fl)), CV.sl Kind.msg (offM (Fifo.mk lm ls l) (Msg.mk e n sd ic sq nm dt) fl)], D.mk false [CV.v (Value.int IntKind.i64 (offH (Fifo.mk lm ls l) (Msg.mk e n sd ic sq nm dt) fl))], D.mk false [CV.v (Value.int IntKind.i64 (errI (fifoR (Fifo.mk lm ls l) && msgR (Msg.mk e n sd ic sq nm dt)) (1 : Int)))]]))), by kernel_rfl, ?_⟩
      have w1 : fifoR ⟨lm, ls, l⟩ = true → (if (65535 : Int) < wrap64 (ls + 1) then (65535 : Int) else wrap64 (ls + 1)) = if ls + 1 < 65535 then ls + 1 else 65535 := fun h => by
        have hb : 0 ≤ ls ∧ ls ≤ 65535 := by simp only [fifoR, Bool.and_eq_true, decide_eq_true_eq] at h; exact h.1.2
        rw [w64 (by omega)]
        split <;> split <;> omega
      have w2 : fifoR ⟨lm, ls, l⟩ = true → (l.length : Int) ≤ lm ∧ lm ≤ 32 := fun h => by
        simp only [fifoR, Bool.and_eq_true, decide_eq_true_eq] at h; omega
      refine ⟨by omega, fun h1 => ?_, fun h1 => ⟨hp.2, fun h3 => ?_, fun h3 => ⟨fun h4 => ?_, fun h4 => ⟨?_, ?_⟩⟩⟩⟩
      · have h1 : (fifoR ⟨lm, ls, l⟩ && msgR ⟨e, n, sd, ic, sq, nm, dt⟩) = false := by revert h1; cases fifoR ⟨lm, ls, l⟩ <;> cases msgR ⟨e, n, sd, ic, sq, nm, dt⟩ <;> simp
        simp only [Out.one.injEq, Out.tup.injEq, D.mk.injEq, List.cons.injEq, CV.v.injEq, CV.sl.injEq, Value.bool.injEq, Value.int.injEq, Value.string.injEq, and_true, true_and, heq_eq_eq]; simp [h1, errI, offH, offL, offM]; try rfl
      · simp at h1 h3
        simp only [Out.one.injEq, Out.tup.injEq, D.mk.injEq, List.cons.injEq, CV.v.injEq, CV.sl.injEq, Value.bool.injEq, Value.int.injEq, Value.string.injEq, and_true, true_and, heq_eq_eq]; simp [h1, h3, errI, offH, offL, offM]; try rfl
      · simp at h1 h3 h4
        have h5 : (l.length : Int) = lm := by have := w2 h1.1; omega
        simp only [Out.one.injEq, Out.tup.injEq, D.mk.injEq, List.cons.injEq, CV.v.injEq, CV.sl.injEq, Value.bool.injEq, Value.int.injEq, Value.string.injEq, and_true, true_and, heq_eq_eq]; rw [w1 h1.1]; simp [h1, h3, h5, errI, offH, offL, offM]; try rfl
      · simp at h1 h3 h4
        have h5 := w2 h1.1
        show l.length + 1 ≤ 1000000
        omega
      · simp at h1 h3 h4
        have h5 : ¬ (l.length : Int) = lm := by omega
        simp only [Out.one.injEq, Out.tup.injEq, D.mk.injEq, List.cons.injEq, CV.v.injEq, CV.sl.injEq, Value.bool.injEq, Value.int.injEq, Value.string.injEq, and_true, true_and, heq_eq_eq]; simp [h1, h3, h5, errI, offH, offL, offM]; try rfl
    · cases hg

def fifoSame_S : RX.Spec U := fun
  | [⟨true, [.v (.int .i64 lm), .v (.int .i64 ls), .sl .msg l]⟩, ⟨true, [.v (.int .i64 lm2), .v (.int .i64 ls2), .sl .msg l2]⟩] => some ⟨some (l.length ≤ 1000000), (.one ⟨false, [.v (.bool (decide (lm = lm2) && decide (ls = ls2) && msgsEq l l2))]⟩)⟩
  | _ => none

theorem fifoSame_ok : ConOk Tryd.prog U GV 11 fifoSame_S :=
  fn_go gs ty glok (conCons msgsSame_ok conNil) Tryd.func11 (by kernel_rfl) fun ds r hg hp => by
    unfold fifoSame_S at hg
    split at hg
    · rename_i lm ls l lm2 ls2 l2
      obtain ⟨l, rfl⟩ : ∃ q_ : List Msg, q_ = l := ⟨l, rfl⟩
      obtain ⟨l2, rfl⟩ : ∃ q_ : List Msg, q_ = l2 := ⟨l2, rfl⟩
      cases hg
      replace hp : (l.length ≤ 1000000) := hp
      refine ⟨fun _ _ => none, ((lm == lm2 && ls == ls2) = true → List.length l ≤ (1000000 : Nat)) ∧ Out.one (U := U) (D.mk false [CV.v (Value.bool (lm == lm2 && ls == ls2 && msgsEq l l2))]) = Out.one (U := U) (D.mk false [CV.v (Value.bool (decide (lm = lm2) && decide (ls = ls2) && msgsEq l l2))]), by kernel_rfl, ?_⟩
      refine ⟨fun h => hp, ?_⟩
      simp only [Out.one.injEq, Out.tup.injEq, D.mk.injEq, List.cons.injEq, CV.v.injEq, CV.sl.injEq, Value.bool.injEq, Value.int.injEq, Value.string.injEq, and_true, true_and, heq_eq_eq]
      rfl
    · cases hg

end Go.Proofs.YtdepagelkocldaaDoor.X

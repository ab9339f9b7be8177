/- Where all is taken ahead of each offer nothing is lost. -/
import Derived.Test.YtdepagelkocldaaDoorRFacts14
import Derived.Test.YtdepagelkocldaaDoorRAwake14
import Derived.Test.YtdepagelkocldaaDoorRRef04
namespace Go.Proofs.YtdepagelkocldaaDoor.X
open Go Go.RX Go.RowKit Go.Proofs
set_option linter.unusedVariables false
set_option linter.unusedSimpArgs false
def roomL (lm : Int) (raw : List A6) (k : Nat) : List Msg := if k = 0 then fMsgs lm raw else [msgOf (raw.getD (k - 1) d_a6) textD]
def Room_S : RX.Spec U := fun
  | [⟨false, [.v (.int .i64 lm)]⟩, ⟨false, [.v (.int .i64 ls)]⟩, ⟨false, [.sl .a6 raw]⟩] => some ⟨some ((in64 lm ∧ in64 ls ∧ ∀ r ∈ raw, okA6 r)), (.one ⟨false, [.v (.bool true)]⟩)⟩
  | _ => none

theorem Room_ok : ConOk Tryd.prog U GV 5 Room_S :=
  fn_go gs ty glok (conCons awake14_ok (conCons mkFifo_ok (conCons Message_ok (conCons Offer_ok (conCons Take_ok (conCons msgsSame_ok conNil)))))) Tryd.func5 (by kernel_rfl) fun ds r hg hp => by
    unfold Room_S at hg
    split at hg
    · rename_i lm ls raw
      obtain ⟨raw, rfl⟩ : ∃ q_ : List A6, q_ = raw := ⟨raw, rfl⟩
      cases hg
      replace hp : ((in64 lm ∧ in64 ls ∧ ∀ r ∈ raw, okA6 r)) := hp
      refine ⟨fun st key => if key = 5 then some { N := if raw.length < 40 then raw.length else 40, mods := fun k => [.tv 10 (.int .i64 (k : Int)), .cv 8 0 (.int .i64 (fLim lm)), .cv 8 1 (.int .i64 (pickI ls 65536)), .cr 8 2 .msg (roomL lm raw k) false] } else if key = 7 then match st with | k :: _ => some { N := (roomL lm raw k).length, mods := fun j => [.cv 8 0 (.int .i64 (fLim lm)), .cv 8 1 (.int .i64 (pickI ls 65536)), .cr 8 2 .msg ((roomL lm raw k).drop j) false] } | [] => none else none, (((-9223372036854775808 : Int) ≤ lm ∧ lm ≤ (9223372036854775807 : Int)) ∧ ((-9223372036854775808 : Int) ≤ ls ∧ ls ≤ (9223372036854775807 : Int)) ∧ ∀ (r : Uni.T U Kind.a6), List.Mem r raw → ((-9223372036854775808 : Int) ≤ A6.a r ∧ A6.a r ≤ (9223372036854775807 : Int)) ∧ ((-9223372036854775808 : Int) ≤ A6.b r ∧ A6.b r ≤ (9223372036854775807 : Int)) ∧ ((-9223372036854775808 : Int) ≤ A6.c r ∧ A6.c r ≤ (9223372036854775807 : Int)) ∧ ((-9223372036854775808 : Int) ≤ A6.d r ∧ A6.d r ≤ (9223372036854775807 : Int)) ∧ ((-9223372036854775808 : Int) ≤ A6.e r ∧ A6.e r ≤ (9223372036854775807 : Int)) ∧ (-9223372036854775808 : Int) ≤ A6.f r ∧ A6.f r ≤ (9223372036854775807 : Int)) ∧ True ∧ (Value.int IntKind.i64 (0 : Int) = Value.int IntKind.i64 (0 : Int) ∧ Value.int IntKind.i64 (fLim lm) = Value.int IntKind.i64 (fLim lm) ∧ Value.int IntKind.i64 (pickI ls (65536 : Int)) = Value.int IntKind.i64 (pickI ls (65536 : Int)) ∧ True ∧ fMsgs lm raw = roomL lm raw (0 : Nat)) ∧ ∀ (k : Nat), (k ≤ if List.length raw < (40 : Nat) then List.length raw else (40 : Nat)) → True → ((decide ((↑k : Int) < (↑(List.length raw) : Int)) && decide ((↑k : Int) < (40 : Int))) = true → True ∧ (Value.int IntKind.i64 (fLim lm) = Value.int IntKind.i64 (fLim lm) ∧ Value.int IntKind.i64 (pickI ls (65536 : Int)) = Value.int IntKind.i64 (pickI ls (65536 : Int)) ∧ True ∧ roomL lm raw k = List.drop (0 : Nat) (roomL lm raw k)) ∧ ∀ (k_1 : Nat), k_1 ≤ List.length (roomL lm raw k) → True → (decide ((0 : Int) < (↑(List.length (List.drop k_1 (roomL lm raw k))) : Int)) = true → List.length (List.drop k_1 (roomL lm raw k)) ≤ (1000000 : Nat) ∧ ((takE (Fifo.mk (fLim lm) (pickI ls (65536 : Int)) (List.drop k_1 (roomL lm raw k))) != (0 : Int) || (↑(List.length (takM (Fifo.mk (fLim lm) (pickI ls (65536 : Int)) (List.drop k_1 (roomL lm raw k))))) : Int) != wrap64 ((↑(List.length (List.drop k_1 (roomL lm raw k))) : Int) - (1 : Int))) = true → Out.one (U := U) (D.mk false [CV.v (Value.bool false)]) = Out.one (U := U) (D.mk false [CV.v (Value.bool true)])) ∧ ((takE (Fifo.mk (fLim lm) (pickI ls (65536 : Int)) (List.drop k_1 (roomL lm raw k))) != (0 : Int) || (↑(List.length (takM (Fifo.mk (fLim lm) (pickI ls (65536 : Int)) (List.drop k_1 (roomL lm raw k))))) : Int) != wrap64 ((↑(List.length (List.drop k_1 (roomL lm raw k))) : Int) - (1 : Int))) = false → k_1 < List.length (roomL lm raw k) ∧ True ∧ Value.int IntKind.i64 (fLim lm) = Value.int IntKind.i64 (fLim lm) ∧ Value.int IntKind.i64 (pickI ls (65536 : Int)) = Value.int IntKind.i64 (pickI ls (65536 : Int)) ∧ True ∧ takM (Fifo.mk (fLim lm) (pickI ls (65536 : Int)) (List.drop k_1 (roomL lm raw k))) = List.drop (k_1 + (1 : Nat)) (roomL lm raw k))) ∧ (decide ((0 : Int) < (↑(List.length (List.drop k_1 (roomL lm raw k))) : Int)) = false → ((0 : Int) ≤ (↑k : Int) ∧ (↑k : Int) < (↑(List.length raw) : Int)) ∧ (((-9223372036854775808 : Int) ≤ A6.a (List.getD raw (Int.toNat (↑k : Int)) (d_a6)) ∧ A6.a (List.getD raw (Int.toNat (↑k : Int)) (d_a6)) ≤ (9223372036854775807 : Int)) ∧ ((-9223372036854775808 : Int) ≤ A6.b (List.getD raw (Int.toNat (↑k : Int)) (d_a6)) ∧ A6.b (List.getD raw (Int.toNat (↑k : Int)) (d_a6)) ≤ (9223372036854775807 : Int)) ∧ ((-9223372036854775808 : Int) ≤ A6.c (List.getD raw (Int.toNat (↑k : Int)) (d_a6)) ∧ A6.c (List.getD raw (Int.toNat (↑k : Int)) (d_a6)) ≤ (9223372036854775807 : Int)) ∧ ((-9223372036854775808 : Int) ≤ A6.d (List.getD raw (Int.toNat (↑k : Int)) (d_a6)) ∧ A6.d (List.getD raw (Int.toNat (↑k : Int)) (d_a6)) ≤ (9223372036854775807 : Int)) ∧ ((-9223372036854775808 : Int) ≤ A6.e (List.getD raw (Int.toNat (↑k : Int)) (d_a6)) ∧ A6.e (List.getD raw (Int.toNat (↑k : Int)) (d_a6)) ≤ (9223372036854775807 : Int)) ∧ (-9223372036854775808 : Int) ≤ A6.f (List.getD raw (Int.toNat (↑k : Int)) (d_a6)) ∧ A6.f (List.getD raw (Int.toNat (↑k : Int)) (d_a6)) ≤ (9223372036854775807 : Int)) ∧ (List.length (List.drop k_1 (roomL lm raw k)) ≤ (1000000 : Nat) ∧ List.length [Filter.mk (Msg.ext (msgOf (List.getD raw (Int.toNat (↑k : Int)) (d_a6)) (ByteArray.mk (Array.mk [(100 : UInt8)])))) (0 : Int) (0 : Int)] ≤ (1000000 : Nat)) ∧ ((offH (Fifo.mk (fLim lm) (pickI ls (65536 : Int)) (List.drop k_1 (roomL lm raw k))) (msgOf (List.getD raw (Int.toNat (↑k : Int)) (d_a6)) (ByteArray.mk (Array.mk [(100 : UInt8)]))) [Filter.mk (Msg.ext (msgOf (List.getD raw (Int.toNat (↑k : Int)) (d_a6)) (ByteArray.mk (Array.mk [(100 : UInt8)])))) (0 : Int) (0 : Int)] != (1 : Int) || errI (fifoR (Fifo.mk (fLim lm) (pickI ls (65536 : Int)) (List.drop k_1 (roomL lm raw k))) && msgR (msgOf (List.getD raw (Int.toNat (↑k : Int)) (d_a6)) (ByteArray.mk (Array.mk [(100 : UInt8)])))) (1 : Int) != (0 : Int)) = true → Out.one (U := U) (D.mk false [CV.v (Value.bool false)]) = Out.one (U := U) (D.mk false [CV.v (Value.bool true)])) ∧ ((offH (Fifo.mk (fLim lm) (pickI ls (65536 : Int)) (List.drop k_1 (roomL lm raw k))) (msgOf (List.getD raw (Int.toNat (↑k : Int)) (d_a6)) (ByteArray.mk (Array.mk [(100 : UInt8)]))) [Filter.mk (Msg.ext (msgOf (List.getD raw (Int.toNat (↑k : Int)) (d_a6)) (ByteArray.mk (Array.mk [(100 : UInt8)])))) (0 : Int) (0 : Int)] != (1 : Int) || errI (fifoR (Fifo.mk (fLim lm) (pickI ls (65536 : Int)) (List.drop k_1 (roomL lm raw k))) && msgR (msgOf (List.getD raw (Int.toNat (↑k : Int)) (d_a6)) (ByteArray.mk (Array.mk [(100 : UInt8)])))) (1 : Int) != (0 : Int)) = false → (k < if List.length raw < (40 : Nat) then List.length raw else (40 : Nat)) ∧ True ∧ Value.int IntKind.i64 (wrap64 ((↑k : Int) + (1 : Int))) = Value.int IntKind.i64 (↑(k + (1 : Nat)) : Int) ∧ Value.int IntKind.i64 (fLim lm) = Value.int IntKind.i64 (fLim lm) ∧ Value.int IntKind.i64 (offL (Fifo.mk (fLim lm) (pickI ls (65536 : Int)) (List.drop k_1 (roomL lm raw k))) (msgOf (List.getD raw (Int.toNat (↑k : Int)) (d_a6)) (ByteArray.mk (Array.mk [(100 : UInt8)]))) [Filter.mk (Msg.ext (msgOf (List.getD raw (Int.toNat (↑k : Int)) (d_a6)) (ByteArray.mk (Array.mk [(100 : UInt8)])))) (0 : Int) (0 : Int)]) = Value.int IntKind.i64 (pickI ls (65536 : Int)) ∧ True ∧ offM (Fifo.mk (fLim lm) (pickI ls (65536 : Int)) (List.drop k_1 (roomL lm raw k))) (msgOf (List.getD raw (Int.toNat (↑k : Int)) (d_a6)) (ByteArray.mk (Array.mk [(100 : UInt8)]))) [Filter.mk (Msg.ext (msgOf (List.getD raw (Int.toNat (↑k : Int)) (d_a6)) (ByteArray.mk (Array.mk [(100 : UInt8)])))) (0 : Int) (0 : Int)] = roomL lm raw (k + (1 : Nat))))) ∧ ((decide ((↑k : Int) < (↑(List.length raw) : Int)) && decide ((↑k : Int) < (40 : Int))) = false → (((-9223372036854775808 : Int) ≤ (0 : Int) ∧ (0 : Int) ≤ (9223372036854775807 : Int)) ∧ ((-9223372036854775808 : Int) ≤ (0 : Int) ∧ (0 : Int) ≤ (9223372036854775807 : Int)) ∧ ((-9223372036854775808 : Int) ≤ (0 : Int) ∧ (0 : Int) ≤ (9223372036854775807 : Int)) ∧ ((-9223372036854775808 : Int) ≤ (0 : Int) ∧ (0 : Int) ≤ (9223372036854775807 : Int)) ∧ ((-9223372036854775808 : Int) ≤ (0 : Int) ∧ (0 : Int) ≤ (9223372036854775807 : Int)) ∧ (-9223372036854775808 : Int) ≤ (0 : Int) ∧ (0 : Int) ≤ (9223372036854775807 : Int)) ∧ (((-9223372036854775808 : Int) ≤ (1 : Int) ∧ (1 : Int) ≤ (9223372036854775807 : Int)) ∧ ((-9223372036854775808 : Int) ≤ (1 : Int) ∧ (1 : Int) ≤ (9223372036854775807 : Int)) ∧ ((-9223372036854775808 : Int) ≤ (1 : Int) ∧ (1 : Int) ≤ (9223372036854775807 : Int)) ∧ ((-9223372036854775808 : Int) ≤ (1 : Int) ∧ (1 : Int) ≤ (9223372036854775807 : Int)) ∧ ((-9223372036854775808 : Int) ≤ (1 : Int) ∧ (1 : Int) ≤ (9223372036854775807 : Int)) ∧ (-9223372036854775808 : Int) ≤ (1 : Int) ∧ (1 : Int) ≤ (9223372036854775807 : Int)) ∧ ((1 : Nat) ≤ (1000000 : Nat) ∧ (1 : Nat) ≤ (1000000 : Nat)) ∧ ((true && pickI ls (65536 : Int) == pickI ls (65536 : Int) && offH (Fifo.mk (1 : Int) (pickI ls (65536 : Int)) [Msg.mk true (0 : Int) (0 : Int) (1 : Int) (1 : Int) (1 : Int) (Msg.data (msgOf (A6.mk (0 : Int) (0 : Int) (0 : Int) (0 : Int) (0 : Int) (0 : Int)) (ByteArray.mk (Array.mk []))))]) (Msg.mk false (1 : Int) (1 : Int) (2 : Int) (2 : Int) (2 : Int) (Msg.data (msgOf (A6.mk (1 : Int) (1 : Int) (1 : Int) (1 : Int) (1 : Int) (1 : Int)) (ByteArray.mk (Array.mk [(120 : UInt8)]))))) [Filter.mk false (0 : Int) (0 : Int)] == (2 : Int) && errI (fifoR (Fifo.mk (1 : Int) (pickI ls (65536 : Int)) [Msg.mk true (0 : Int) (0 : Int) (1 : Int) (1 : Int) (1 : Int) (Msg.data (msgOf (A6.mk (0 : Int) (0 : Int) (0 : Int) (0 : Int) (0 : Int) (0 : Int)) (ByteArray.mk (Array.mk []))))]) && true) (1 : Int) == (0 : Int) && offL (Fifo.mk (1 : Int) (pickI ls (65536 : Int)) [Msg.mk true (0 : Int) (0 : Int) (1 : Int) (1 : Int) (1 : Int) (Msg.data (msgOf (A6.mk (0 : Int) (0 : Int) (0 : Int) (0 : Int) (0 : Int) (0 : Int)) (ByteArray.mk (Array.mk []))))]) (Msg.mk false (1 : Int) (1 : Int) (2 : Int) (2 : Int) (2 : Int) (Msg.data (msgOf (A6.mk (1 : Int) (1 : Int) (1 : Int) (1 : Int) (1 : Int) (1 : Int)) (ByteArray.mk (Array.mk [(120 : UInt8)]))))) [Filter.mk false (0 : Int) (0 : Int)] == if (65535 : Int) < wrap64 (pickI ls (65536 : Int) + (1 : Int)) then (65535 : Int) else wrap64 (pickI ls (65536 : Int) + (1 : Int))) = true → List.length (offM (Fifo.mk (1 : Int) (pickI ls (65536 : Int)) [Msg.mk true (0 : Int) (0 : Int) (1 : Int) (1 : Int) (1 : Int) (Msg.data (msgOf (A6.mk (0 : Int) (0 : Int) (0 : Int) (0 : Int) (0 : Int) (0 : Int)) (ByteArray.mk (Array.mk []))))]) (Msg.mk false (1 : Int) (1 : Int) (2 : Int) (2 : Int) (2 : Int) (Msg.data (msgOf (A6.mk (1 : Int) (1 : Int) (1 : Int) (1 : Int) (1 : Int) (1 : Int)) (ByteArray.mk (Array.mk [(120 : UInt8)]))))) [Filter.mk false (0 : Int) (0 : Int)]) ≤ (1000000 : Nat)) ∧ Out.one (U := U) (D.mk false [CV.v (Value.bool ((true && pickI ls (65536 : Int) == pickI ls (65536 : Int) && offH (Fifo.mk (1 : Int) (pickI ls (65536 : Int)) [Msg.mk true (0 : Int) (0 : Int) (1 : Int) (1 : Int) (1 : Int) (Msg.data (msgOf (A6.mk (0 : Int) (0 : Int) (0 : Int) (0 : Int) (0 : Int) (0 : Int)) (ByteArray.mk (Array.mk []))))]) (Msg.mk false (1 : Int) (1 : Int) (2 : Int) (2 : Int) (2 : Int) (Msg.data (msgOf (A6.mk (1 : Int) (1 : Int) (1 : Int) (1 : Int) (1 : Int) (1 : Int)) (ByteArray.mk (Array.mk [(120 : UInt8)]))))) [Filter.mk false (0 : Int) (0 : Int)] == (2 : Int) && errI (fifoR (Fifo.mk (1 : Int) (pickI ls (65536 : Int)) [Msg.mk true (0 : Int) (0 : Int) (1 : Int) (1 : Int) (1 : Int) (Msg.data (msgOf (A6.mk (0 : Int) (0 : Int) (0 : Int) (0 : Int) (0 : Int) (0 : Int)) (ByteArray.mk (Array.mk []))))]) && true) (1 : Int) == (0 : Int) && offL (Fifo.mk (1 : Int) (pickI ls (65536 : Int)) [Msg.mk true (0 : Int) (0 : Int) (1 : Int) (1 : Int) (1 : Int) (Msg.data (msgOf (A6.mk (0 : Int) (0 : Int) (0 : Int) (0 : Int) (0 : Int) (0 : Int)) (ByteArray.mk (Array.mk []))))]) (Msg.mk false (1 : Int) (1 : Int) (2 : Int) (2 : Int) (2 : Int) (Msg.data (msgOf (A6.mk (1 : Int) (1 : Int) (1 : Int) (1 : Int) (1 : Int) (1 : Int)) (ByteArray.mk (Array.mk [(120 : UInt8)]))))) [Filter.mk false (0 : Int) (0 : Int)] == if (65535 : Int) < wrap64 (pickI ls (65536 : Int) + (1 : Int)) then (65535 : Int) else wrap64 (pickI ls (65536 : Int) + (1 : Int))) && msgsEq (offM (Fifo.mk (1 : Int) (pickI ls (65536 : Int)) [Msg.mk true (0 : Int) (0 : Int) (1 : Int) (1 : Int) (1 : Int) (Msg.data (msgOf (A6.mk (0 : Int) (0 : Int) (0 : Int) (0 : Int) (0 : Int) (0 : Int)) (ByteArray.mk (Array.mk []))))]) (Msg.mk false (1 : Int) (1 : Int) (2 : Int) (2 : Int) (2 : Int) (Msg.data (msgOf (A6.mk (1 : Int) (1 : Int) (1 : Int) (1 : Int) (1 : Int) (1 : Int)) (ByteArray.mk (Array.mk [(120 : UInt8)]))))) [Filter.mk false (0 : Int) (0 : Int)]) [Msg.mk true (0 : Int) (0 : Int) (1 : Int) (1 : Int) (1 : Int) (Msg.data (msgOf (A6.mk (0 : Int) (0 : Int) (0 : Int) (0 : Int) (0 : Int) (0 : Int)) (ByteArray.mk (Array.mk []))))] && true))]) = Out.one (U := U) (D.mk false [CV.v (Value.bool true)])), by kernel_rfl, ?_⟩
      obtain ⟨h1, h2, h4⟩ := hp
      have hF0 := mk_right lm ls raw
      have hlim := fLim_range lm
      have hls := pickI_range ls 65536 (by omega)
      have hR : ∀ k, fifoR ⟨fLim lm, pickI ls 65536, roomL lm raw k⟩ = true := fun k => by
        unfold roomL
        split
        · exact hF0
        · refine fifo_right hlim ?_ (by omega) ?_
          · show ((1 : Nat) : Int) ≤ fLim lm; omega
          · intro m hm
            have : m = msgOf (raw.getD (k - 1) d_a6) textD := by simpa using hm
            rw [this]; exact msgOf_right _ _
      have hRl : ∀ k, (roomL lm raw k).length ≤ 32 := fun k => by have := (fifo_right_is (hR k)).2.1; omega
      have tD : (ByteArray.mk (Array.mk [(100 : UInt8)])) = textD := rfl
      rw [tD]
      refine ⟨⟨h1, h2, h4⟩, trivial, ⟨rfl, rfl, rfl, trivial, (if_pos rfl).symm⟩, fun k hk _ => ⟨fun hlt => ⟨trivial, ⟨rfl, rfl, trivial, rfl⟩, fun j hj _ => ⟨fun hne => ?_, fun hge => ?_⟩⟩, fun hge => ?_⟩⟩
      · have hne := of_decide_eq_true hne
        have hD := drop_right (k := j) (hR k) (ls2 := pickI ls 65536) (by omega)
        have hdl : ((roomL lm raw k).drop j).length = (roomL lm raw k).length - j := List.length_drop ..
        have hd1 : ((roomL lm raw k).drop j).drop 1 = (roomL lm raw k).drop (j + 1) := List.drop_drop ..
        have hl := hRl k
        revert hne hD hdl hd1
        generalize (roomL lm raw k).drop j = D
        intro hne hD hdl hd1
        obtain ⟨t1, _, t3⟩ := take_ok hD (by omega)
        rw [t1, t3, w64 (x := (D.length : Int) - 1) (by omega), List.length_drop]
        have c1 : ((((D.length - 1 : Nat) : Int) != (D.length : Int) - 1) = false) := by rw [show ((D.length - 1 : Nat) : Int) = (D.length : Int) - 1 by omega]; simp
        rw [c1]
        refine ⟨by omega, fun h => ?_, fun _ => ⟨by omega, trivial, rfl, rfl, trivial, hd1⟩⟩
        exfalso; revert h; simp
      · simp only [Bool.and_eq_true, decide_eq_true_eq] at hlt
        have hge := of_decide_eq_false hge
        have hD0 : (roomL lm raw k).drop j = [] := List.eq_nil_of_length_eq_zero (by omega)
        have hkl : k < raw.length := by omega
        rw [hD0, getD_at raw k _ hkl]
        have ok := h4 raw[k] (List.getElem_mem hkl)
        have hmR := msgOf_right raw[k] textD
        have hE : fifoR ⟨fLim lm, pickI ls 65536, []⟩ = true := fifo_right hlim (by simp; omega) (by omega) (by simp)
        have hm : roomL lm raw (k + 1) = [msgOf raw[k] textD] := by
          unfold roomL
          rw [if_neg (by omega), Nat.add_sub_cancel, List.getD_eq_getElem?_getD, List.getElem?_eq_getElem hkl]; rfl
        rw [hm]
        revert hmR
        generalize msgOf raw[k] textD = m
        intro hmR
        rcases off_ok hE hmR (any_ext (msgR_right hmR)) with ⟨o1, _⟩ | ⟨_, o2, o3, o4⟩
        · simp at o1; omega
        · rw [o2, o3, o4, hE, hmR]
          refine ⟨by omega, ok, ⟨by simp, by simp⟩, fun h => ?_, fun _ => ⟨?_, trivial, ?_, rfl, rfl, trivial, rfl⟩⟩
          · exfalso; revert h; simp [errI]
          · split <;> omega
          · rw [w64 (by omega)]; rfl
      · have e0 : Msg.mk true (0 : Int) (0 : Int) (1 : Int) (1 : Int) (1 : Int) (Msg.data (msgOf (A6.mk (0 : Int) (0 : Int) (0 : Int) (0 : Int) (0 : Int) (0 : Int)) (ByteArray.mk (Array.mk [])))) = msgOf (A6.mk (0 : Int) (0 : Int) (0 : Int) (0 : Int) (0 : Int) (0 : Int)) (ByteArray.mk (Array.mk [])) := rfl
        have e1 : Msg.mk false (1 : Int) (1 : Int) (2 : Int) (2 : Int) (2 : Int) (Msg.data (msgOf (A6.mk (1 : Int) (1 : Int) (1 : Int) (1 : Int) (1 : Int) (1 : Int)) (ByteArray.mk (Array.mk [(120 : UInt8)])))) = msgOf (A6.mk (1 : Int) (1 : Int) (1 : Int) (1 : Int) (1 : Int) (1 : Int)) (ByteArray.mk (Array.mk [(120 : UInt8)])) := rfl
        have e2 : (false : Bool) = (msgOf (A6.mk (1 : Int) (1 : Int) (1 : Int) (1 : Int) (1 : Int) (1 : Int)) (ByteArray.mk (Array.mk [(120 : UInt8)]))).ext := rfl
        rw [e0, e1, show [Filter.mk false (0 : Int) (0 : Int)] = [Filter.mk (msgOf (A6.mk (1 : Int) (1 : Int) (1 : Int) (1 : Int) (1 : Int) (1 : Int)) (ByteArray.mk (Array.mk [(120 : UInt8)]))).ext 0 0] from rfl]
        have hm0 := msgOf_right (A6.mk (0 : Int) (0 : Int) (0 : Int) (0 : Int) (0 : Int) (0 : Int)) (ByteArray.mk (Array.mk []))
        have hm1 := msgOf_right (A6.mk (1 : Int) (1 : Int) (1 : Int) (1 : Int) (1 : Int) (1 : Int)) (ByteArray.mk (Array.mk [(120 : UInt8)]))
        clear e0 e1 e2
        revert hm0 hm1
        generalize msgOf (A6.mk (0 : Int) (0 : Int) (0 : Int) (0 : Int) (0 : Int) (0 : Int)) (ByteArray.mk (Array.mk [])) = m0
        generalize msgOf (A6.mk (1 : Int) (1 : Int) (1 : Int) (1 : Int) (1 : Int) (1 : Int)) (ByteArray.mk (Array.mk [(120 : UInt8)])) = m1
        intro hm0 hm1
        have hfull : fifoR ⟨1, pickI ls 65536, [m0]⟩ = true := fifo_right (by omega) (by simp) (by omega) (by
          intro m hm
          have : m = m0 := by simpa using hm
          rw [this]; exact hm0)
        rcases off_ok hfull hm1 (any_ext (msgR_right hm1)) with ⟨_, o2, o3, o4⟩ | ⟨o1, _⟩
        · have w1 : (if (65535 : Int) < wrap64 (pickI ls 65536 + 1) then (65535 : Int) else wrap64 (pickI ls 65536 + 1)) = if pickI ls 65536 + 1 < 65535 then pickI ls 65536 + 1 else 65535 := by
            rw [w64 (by omega)]
            split <;> split <;> omega
          rw [o2, o3, o4, hfull, w1]
          refine ⟨by decide, by decide, by decide, fun _ => by simp, ?_⟩
          simp [errI, msgsEq]
        · simp at o1
    · cases hg

end Go.Proofs.YtdepagelkocldaaDoor.X

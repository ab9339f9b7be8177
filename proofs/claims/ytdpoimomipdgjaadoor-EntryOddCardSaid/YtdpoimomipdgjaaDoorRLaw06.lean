/- The law's entries, out of raw numbers. -/
import Derived.Test.YtdpoimomipdgjaaDoorRLaw04
import Derived.Test.YtdpoimomipdgjaaDoorRRef03
import Derived.Test.YtdpoimomipdgjaaDoorRSort
namespace Go.Proofs.YtdpoimomipdgjaaDoor.X
open Go Go.RX Go.RowKit Go.Proofs
set_option linter.unusedVariables false
set_option linter.unusedSimpArgs false
def pick06_S : RX.Spec U := fun
  | [⟨false, [.v (.int .i64 c)]⟩, ⟨false, [.v (.int .i64 n)]⟩] => some ⟨some ((in64 c ∧ 0 < n ∧ n ≤ 1000000000)), (.one ⟨false, [.v (.int .i64 (pickI c n))]⟩)⟩
  | _ => none

theorem pick06_ok : ConOk Tryd.prog U GV 12 pick06_S :=
  fn_go gs ty glok conNil Tryd.func12 (by kernel_rfl) fun ds r hg hp => by
    unfold pick06_S at hg
    split at hg
    · rename_i c n
      cases hg
      replace hp : ((in64 c ∧ 0 < n ∧ n ≤ 1000000000)) := hp
      refine ⟨fun _ _ => none, (decide (c < (0 : Int)) = true → n ≠ (0 : Int) ∧ Out.one (U := U) (D.mk false [CV.v (Value.int IntKind.i64 (Int.tmod (wrap64 ((0 : Int) - wrap64 (c + (1 : Int)))) n))]) = Out.one (U := U) (D.mk false [CV.v (Value.int IntKind.i64 (pickI c n))])) ∧ (decide (c < (0 : Int)) = false → n ≠ (0 : Int) ∧ Out.one (U := U) (D.mk false [CV.v (Value.int IntKind.i64 (Int.tmod c n))]) = Out.one (U := U) (D.mk false [CV.v (Value.int IntKind.i64 (pickI c n))])), by kernel_rfl, ?_⟩
      unfold in64 at hp
      refine ⟨fun h => ⟨by omega, ?_⟩, fun h => ⟨by omega, ?_⟩⟩
      · have h' := of_decide_eq_true h
        simp only [Out.one.injEq, Out.tup.injEq, D.mk.injEq, List.cons.injEq, CV.v.injEq, CV.sl.injEq, Value.bool.injEq, Value.int.injEq, Value.string.injEq, and_true, true_and, heq_eq_eq]
        rw [pickI, if_pos h', w64 (x := c + 1) (by omega), w64 (by omega), Int.tmod_eq_emod_of_nonneg (by omega)]
        congr 1; omega
      · have h' := of_decide_eq_false h
        simp only [Out.one.injEq, Out.tup.injEq, D.mk.injEq, List.cons.injEq, CV.v.injEq, CV.sl.injEq, Value.bool.injEq, Value.int.injEq, Value.string.injEq, and_true, true_and, heq_eq_eq]
        rw [pickI, if_neg h', Int.tmod_eq_emod_of_nonneg (by omega)]
    · cases hg

def textData : ByteArray := ⟨#[100, 97, 116, 97]⟩
def mInc (incs : List Int) (i : Nat) : Int := if 0 < incs.length then 1 + pickI (incs.getD (i % incs.length) 0) 65535 else 1
def mIncs (incs : List Int) (k : Nat) : List Int := (List.range k).map (mInc incs)
def mMsg (mb : Int) (incs : List Int) (raw : List A6) (i : Nat) : Msg := { msgOf (raw.getD i d_a6) (textData.extract 0 (pickI (raw.getD i d_a6).e 5).toNat) with sender := (vl mb 16).getD i 0, inc := mInc incs i }
def mMsgs (mb : Int) (incs : List Int) (raw : List A6) (k : Nat) : List Msg := (List.range k).map (mMsg mb incs raw)
def mN (mb : Int) (raw : List A6) : Nat := if raw.length < (vl mb 16).length then raw.length else (vl mb 16).length
def eT (a : Int) : Int := 1 + pickI a 65535
def eI (c : Int) (incs : List Int) : List Int := mIncs incs (vl (pickI c 65536) 16).length
def eR (c : Int) (incs : List Int) (raw : List A6) : List Msg := mMsgs (pickI c 65536) incs raw (mN (pickI c 65536) raw)
def eL (c : Int) (incs : List Int) (raw : List A6) : List Msg := srtL (eR c incs raw) (eR c incs raw).length
def mkEntry_S : RX.Spec U := fun
  | [⟨true, [.v (.int .i64 a), .v (.int .i64 b), .v (.int .i64 c)]⟩, ⟨false, [.sl .int incs]⟩, ⟨false, [.sl .a6 raw]⟩] => some ⟨some ((in64 a ∧ in64 b ∧ in64 c ∧ (∀ r ∈ incs, in64 r) ∧ (∀ r ∈ raw, okA6 r))), (.one ⟨true, [.v (.int .i64 (eT a)), .v (.int .i64 (eT b)), .v (.int .i64 (pickI c 65536)), .sl .int (eI c incs), .sl .msg (eL c incs raw)]⟩)⟩
  | _ => none

theorem mkEntry_ok : ConOk Tryd.prog U GV 10 mkEntry_S :=
  fn_go gs ty glok (conCons pick06_ok (conCons rList_ok (conCons Message_ok (conCons rSort_ok conNil)))) Tryd.func10 (by kernel_rfl) fun ds r hg hp => by
    unfold mkEntry_S at hg
    split at hg
    · rename_i a b c incs raw
      obtain ⟨incs, rfl⟩ : ∃ q_ : List Int, q_ = incs := ⟨incs, rfl⟩
      obtain ⟨raw, rfl⟩ : ∃ q_ : List A6, q_ = raw := ⟨raw, rfl⟩
      cases hg
      replace hp : ((in64 a ∧ in64 b ∧ in64 c ∧ (∀ r ∈ incs, in64 r) ∧ (∀ r ∈ raw, okA6 r))) := hp
      refine ⟨fun st key => if key = 4 then some { N := (vl (pickI c 65536) 16).length, mods := fun k => [.tv 9 (.int .i64 (k : Int)), .cr 7 3 .int (mIncs incs k) true] } else if key = 12 then some { N := mN (pickI c 65536) raw, mods := fun k => [.tv 12 (.int .i64 (k : Int)), .tr 11 .msg (mMsgs (pickI c 65536) incs raw k) true] } else none, ((0 : Int) ≤ (0 : Int) ∧ (0 : Int) < (3 : Int)) ∧ (((-9223372036854775808 : Int) ≤ a ∧ a ≤ (9223372036854775807 : Int)) ∧ (0 : Int) < (65535 : Int) ∧ (65535 : Int) ≤ (1000000000 : Int)) ∧ ((0 : Int) ≤ (1 : Int) ∧ (1 : Int) < (3 : Int)) ∧ (((-9223372036854775808 : Int) ≤ b ∧ b ≤ (9223372036854775807 : Int)) ∧ (0 : Int) < (65535 : Int) ∧ (65535 : Int) ≤ (1000000000 : Int)) ∧ ((0 : Int) ≤ (2 : Int) ∧ (2 : Int) < (3 : Int)) ∧ (((-9223372036854775808 : Int) ≤ c ∧ c ≤ (9223372036854775807 : Int)) ∧ (0 : Int) < (65536 : Int) ∧ (65536 : Int) ≤ (1000000000 : Int)) ∧ True ∧ (Value.int IntKind.i64 (0 : Int) = Value.int IntKind.i64 (0 : Int) ∧ mIncs incs (0 : Nat) = []) ∧ ∀ (k : Nat), k ≤ List.length (vl (pickI c (65536 : Int)) (16 : Nat)) → True → (decide ((↑k : Int) < (↑(List.length (vl (pickI c (65536 : Int)) (16 : Nat))) : Int)) = true → (decide ((0 : Int) < (↑(List.length incs) : Int)) = true → (↑(List.length incs) : Int) ≠ (0 : Int) ∧ ((0 : Int) ≤ Int.tmod (↑k : Int) (↑(List.length incs) : Int) ∧ Int.tmod (↑k : Int) (↑(List.length incs) : Int) < (↑(List.length incs) : Int)) ∧ (((-9223372036854775808 : Int) ≤ List.getD incs (Int.toNat (Int.tmod (↑k : Int) (↑(List.length incs) : Int))) (d_int) ∧ List.getD incs (Int.toNat (Int.tmod (↑k : Int) (↑(List.length incs) : Int))) (d_int) ≤ (9223372036854775807 : Int)) ∧ (0 : Int) < (65535 : Int) ∧ (65535 : Int) ≤ (1000000000 : Int)) ∧ List.length (mIncs incs k) + List.length [wrap64 ((1 : Int) + pickI (List.getD incs (Int.toNat (Int.tmod (↑k : Int) (↑(List.length incs) : Int))) (d_int)) (65535 : Int))] ≤ (1000000 : Nat) ∧ k < List.length (vl (pickI c (65536 : Int)) (16 : Nat)) ∧ True ∧ Value.int IntKind.i64 (wrap64 ((↑k : Int) + (1 : Int))) = Value.int IntKind.i64 (↑(k + (1 : Nat)) : Int) ∧ True ∧ mIncs incs k ++ [wrap64 ((1 : Int) + pickI (List.getD incs (Int.toNat (Int.tmod (↑k : Int) (↑(List.length incs) : Int))) (d_int)) (65535 : Int))] = mIncs incs (k + (1 : Nat))) ∧ (decide ((0 : Int) < (↑(List.length incs) : Int)) = false → List.length (mIncs incs k) + (1 : Nat) ≤ (1000000 : Nat) ∧ k < List.length (vl (pickI c (65536 : Int)) (16 : Nat)) ∧ True ∧ Value.int IntKind.i64 (wrap64 ((↑k : Int) + (1 : Int))) = Value.int IntKind.i64 (↑(k + (1 : Nat)) : Int) ∧ True ∧ mIncs incs k ++ [(1 : Int)] = mIncs incs (k + (1 : Nat)))) ∧ (decide ((↑k : Int) < (↑(List.length (vl (pickI c (65536 : Int)) (16 : Nat))) : Int)) = false → True ∧ (Value.int IntKind.i64 (0 : Int) = Value.int IntKind.i64 (0 : Int) ∧ mMsgs (pickI c (65536 : Int)) incs raw (0 : Nat) = []) ∧ ∀ (k_1 : Nat), k_1 ≤ mN (pickI c (65536 : Int)) raw → True → ((decide ((↑k_1 : Int) < (↑(List.length raw) : Int)) && decide ((↑k_1 : Int) < (↑(List.length (vl (pickI c (65536 : Int)) (16 : Nat))) : Int))) = true → ((0 : Int) ≤ (↑k_1 : Int) ∧ (↑k_1 : Int) < (↑(List.length raw) : Int)) ∧ ((0 : Int) ≤ (↑k_1 : Int) ∧ (↑k_1 : Int) < (↑(List.length raw) : Int)) ∧ ((0 : Int) ≤ (4 : Int) ∧ (4 : Int) < (6 : Int)) ∧ (((-9223372036854775808 : Int) ≤ A6.e (List.getD raw (Int.toNat (↑k_1 : Int)) (d_a6)) ∧ A6.e (List.getD raw (Int.toNat (↑k_1 : Int)) (d_a6)) ≤ (9223372036854775807 : Int)) ∧ (0 : Int) < (5 : Int) ∧ (5 : Int) ≤ (1000000000 : Int)) ∧ ((0 : Int) ≤ pickI (A6.e (List.getD raw (Int.toNat (↑k_1 : Int)) (d_a6))) (5 : Int) ∧ pickI (A6.e (List.getD raw (Int.toNat (↑k_1 : Int)) (d_a6))) (5 : Int) ≤ (4 : Int)) ∧ (((-9223372036854775808 : Int) ≤ A6.a (List.getD raw (Int.toNat (↑k_1 : Int)) (d_a6)) ∧ A6.a (List.getD raw (Int.toNat (↑k_1 : Int)) (d_a6)) ≤ (9223372036854775807 : Int)) ∧ ((-9223372036854775808 : Int) ≤ A6.b (List.getD raw (Int.toNat (↑k_1 : Int)) (d_a6)) ∧ A6.b (List.getD raw (Int.toNat (↑k_1 : Int)) (d_a6)) ≤ (9223372036854775807 : Int)) ∧ ((-9223372036854775808 : Int) ≤ A6.c (List.getD raw (Int.toNat (↑k_1 : Int)) (d_a6)) ∧ A6.c (List.getD raw (Int.toNat (↑k_1 : Int)) (d_a6)) ≤ (9223372036854775807 : Int)) ∧ ((-9223372036854775808 : Int) ≤ A6.d (List.getD raw (Int.toNat (↑k_1 : Int)) (d_a6)) ∧ A6.d (List.getD raw (Int.toNat (↑k_1 : Int)) (d_a6)) ≤ (9223372036854775807 : Int)) ∧ ((-9223372036854775808 : Int) ≤ A6.e (List.getD raw (Int.toNat (↑k_1 : Int)) (d_a6)) ∧ A6.e (List.getD raw (Int.toNat (↑k_1 : Int)) (d_a6)) ≤ (9223372036854775807 : Int)) ∧ (-9223372036854775808 : Int) ≤ A6.f (List.getD raw (Int.toNat (↑k_1 : Int)) (d_a6)) ∧ A6.f (List.getD raw (Int.toNat (↑k_1 : Int)) (d_a6)) ≤ (9223372036854775807 : Int)) ∧ ((0 : Int) ≤ (↑k_1 : Int) ∧ (↑k_1 : Int) < (↑(List.length (vl (pickI c (65536 : Int)) (16 : Nat))) : Int)) ∧ ((0 : Int) ≤ (↑k_1 : Int) ∧ (↑k_1 : Int) < (↑(List.length (mIncs incs k)) : Int)) ∧ List.length (mMsgs (pickI c (65536 : Int)) incs raw k_1) + List.length [Msg.mk (Msg.ext (msgOf (List.getD raw (Int.toNat (↑k_1 : Int)) (d_a6)) (ByteArray.extract (ByteArray.mk (Array.mk [(100 : UInt8), (97 : UInt8), (116 : UInt8), (97 : UInt8)])) (0 : Nat) (Int.toNat (pickI (A6.e (List.getD raw (Int.toNat (↑k_1 : Int)) (d_a6))) (5 : Int)))))) (Msg.id (msgOf (List.getD raw (Int.toNat (↑k_1 : Int)) (d_a6)) (ByteArray.extract (ByteArray.mk (Array.mk [(100 : UInt8), (97 : UInt8), (116 : UInt8), (97 : UInt8)])) (0 : Nat) (Int.toNat (pickI (A6.e (List.getD raw (Int.toNat (↑k_1 : Int)) (d_a6))) (5 : Int)))))) (List.getD (vl (pickI c (65536 : Int)) (16 : Nat)) (Int.toNat (↑k_1 : Int)) (d_int)) (List.getD (mIncs incs k) (Int.toNat (↑k_1 : Int)) (d_int)) (Msg.seq (msgOf (List.getD raw (Int.toNat (↑k_1 : Int)) (d_a6)) (ByteArray.extract (ByteArray.mk (Array.mk [(100 : UInt8), (97 : UInt8), (116 : UInt8), (97 : UInt8)])) (0 : Nat) (Int.toNat (pickI (A6.e (List.getD raw (Int.toNat (↑k_1 : Int)) (d_a6))) (5 : Int)))))) (Msg.number (msgOf (List.getD raw (Int.toNat (↑k_1 : Int)) (d_a6)) (ByteArray.extract (ByteArray.mk (Array.mk [(100 : UInt8), (97 : UInt8), (116 : UInt8), (97 : UInt8)])) (0 : Nat) (Int.toNat (pickI (A6.e (List.getD raw (Int.toNat (↑k_1 : Int)) (d_a6))) (5 : Int)))))) (Msg.data (msgOf (List.getD raw (Int.toNat (↑k_1 : Int)) (d_a6)) (ByteArray.extract (ByteArray.mk (Array.mk [(100 : UInt8), (97 : UInt8), (116 : UInt8), (97 : UInt8)])) (0 : Nat) (Int.toNat (pickI (A6.e (List.getD raw (Int.toNat (↑k_1 : Int)) (d_a6))) (5 : Int))))))] ≤ (1000000 : Nat) ∧ k_1 < mN (pickI c (65536 : Int)) raw ∧ True ∧ Value.int IntKind.i64 (wrap64 ((↑k_1 : Int) + (1 : Int))) = Value.int IntKind.i64 (↑(k_1 + (1 : Nat)) : Int) ∧ True ∧ mMsgs (pickI c (65536 : Int)) incs raw k_1 ++ [Msg.mk (Msg.ext (msgOf (List.getD raw (Int.toNat (↑k_1 : Int)) (d_a6)) (ByteArray.extract (ByteArray.mk (Array.mk [(100 : UInt8), (97 : UInt8), (116 : UInt8), (97 : UInt8)])) (0 : Nat) (Int.toNat (pickI (A6.e (List.getD raw (Int.toNat (↑k_1 : Int)) (d_a6))) (5 : Int)))))) (Msg.id (msgOf (List.getD raw (Int.toNat (↑k_1 : Int)) (d_a6)) (ByteArray.extract (ByteArray.mk (Array.mk [(100 : UInt8), (97 : UInt8), (116 : UInt8), (97 : UInt8)])) (0 : Nat) (Int.toNat (pickI (A6.e (List.getD raw (Int.toNat (↑k_1 : Int)) (d_a6))) (5 : Int)))))) (List.getD (vl (pickI c (65536 : Int)) (16 : Nat)) (Int.toNat (↑k_1 : Int)) (d_int)) (List.getD (mIncs incs k) (Int.toNat (↑k_1 : Int)) (d_int)) (Msg.seq (msgOf (List.getD raw (Int.toNat (↑k_1 : Int)) (d_a6)) (ByteArray.extract (ByteArray.mk (Array.mk [(100 : UInt8), (97 : UInt8), (116 : UInt8), (97 : UInt8)])) (0 : Nat) (Int.toNat (pickI (A6.e (List.getD raw (Int.toNat (↑k_1 : Int)) (d_a6))) (5 : Int)))))) (Msg.number (msgOf (List.getD raw (Int.toNat (↑k_1 : Int)) (d_a6)) (ByteArray.extract (ByteArray.mk (Array.mk [(100 : UInt8), (97 : UInt8), (116 : UInt8), (97 : UInt8)])) (0 : Nat) (Int.toNat (pickI (A6.e (List.getD raw (Int.toNat (↑k_1 : Int)) (d_a6))) (5 : Int)))))) (Msg.data (msgOf (List.getD raw (Int.toNat (↑k_1 : Int)) (d_a6)) (ByteArray.extract (ByteArray.mk (Array.mk [(100 : UInt8), (97 : UInt8), (116 : UInt8), (97 : UInt8)])) (0 : Nat) (Int.toNat (pickI (A6.e (List.getD raw (Int.toNat (↑k_1 : Int)) (d_a6))) (5 : Int))))))] = mMsgs (pickI c (65536 : Int)) incs raw (k_1 + (1 : Nat))) ∧ ((decide ((↑k_1 : Int) < (↑(List.length raw) : Int)) && decide ((↑k_1 : Int) < (↑(List.length (vl (pickI c (65536 : Int)) (16 : Nat))) : Int))) = false → List.length (mMsgs (pickI c (65536 : Int)) incs raw k_1) ≤ (1000 : Nat) ∧ Out.one (U := U) (D.mk true [CV.v (Value.int IntKind.i64 (wrap64 ((1 : Int) + pickI a (65535 : Int)))), CV.v (Value.int IntKind.i64 (wrap64 ((1 : Int) + pickI b (65535 : Int)))), CV.v (Value.int IntKind.i64 (pickI c (65536 : Int))), CV.sl Kind.int (mIncs incs k), CV.sl Kind.msg (srtL (mMsgs (pickI c (65536 : Int)) incs raw k_1) (List.length (mMsgs (pickI c (65536 : Int)) incs raw k_1)))]) = Out.one (U := U) (D.mk true [CV.v (Value.int IntKind.i64 (eT a)), CV.v (Value.int IntKind.i64 (eT b)), CV.v (Value.int IntKind.i64 (pickI c (65536 : Int))), CV.sl Kind.int (eI c incs), CV.sl Kind.msg (eL c incs raw)]))), by kernel_rfl, ?_⟩
      unfold eT eI eL eR
      obtain ⟨p1, p2, p3, p4, p5⟩ := hp
      have r1 := pickI_range a 65535 (by omega)
      have r2 := pickI_range b 65535 (by omega)
      have wa : wrap64 ((1 : Int) + pickI a (65535 : Int)) = 1 + pickI a 65535 := w64 (by omega)
      have wb : wrap64 ((1 : Int) + pickI b (65535 : Int)) = 1 + pickI b 65535 := w64 (by omega)
      rw [wa, wb]
      clear wa wb r1 r2
      generalize pickI c (65536 : Int) = mb
      obtain ⟨n, hn⟩ : ∃ n, n = (vl mb 16).length := ⟨_, rfl⟩
      have hl : n ≤ 16 := by rw [hn]; exact vl_length mb 16
      have hNd : mN mb raw = if raw.length < n then raw.length else n := by rw [hn]; rfl
      rw [← hn]
      clear hn
      have hml : ∀ k, (mIncs incs k).length = k := fun k => by unfold mIncs; rw [List.length_map, List.length_range]
      have hmm : ∀ k, (mMsgs mb incs raw k).length = k := fun k => by unfold mMsgs; rw [List.length_map, List.length_range]
      refine ⟨by omega, ⟨p1, by omega, by omega⟩, by omega, ⟨p2, by omega, by omega⟩, by omega, ⟨p3, by omega, by omega⟩, trivial, ⟨rfl, rfl⟩, fun k hk _ => ⟨fun hlt => ?_, fun hge => ?_⟩⟩
      · have hlt : k < n := by have := of_decide_eq_true hlt; omega
        have eS : mIncs incs (k + 1) = mIncs incs k ++ [mInc incs k] := by unfold mIncs; rw [List.range_succ, List.map_append]; rfl
        have wk : wrap64 ((k : Int) + 1) = ((k + 1 : Nat) : Int) := by rw [w64 (by omega)]; rfl
        rw [eS, wk]
        refine ⟨fun h => ?_, fun h => ?_⟩
        · have h := of_decide_eq_true h
          have hm : k % incs.length < incs.length := Nat.mod_lt _ (by omega)
          have et : Int.tmod (k : Int) (incs.length : Int) = ((k % incs.length : Nat) : Int) := by rw [Int.tmod_eq_emod_of_nonneg (by omega)]; exact (Int.natCast_emod ..).symm
          rw [et, Int.toNat_natCast]
          have hx : in64 (incs.getD (k % incs.length) d_int) := by rw [List.getD_eq_getElem?_getD, List.getElem?_eq_getElem hm]; exact p4 _ (List.getElem_mem hm)
          have rx := pickI_range (incs.getD (k % incs.length) d_int) 65535 (by omega)
          rw [w64 (x := 1 + pickI (incs.getD (k % incs.length) d_int) 65535) (by omega), hml]
          refine ⟨by omega, ⟨by omega, by omega⟩, ⟨hx, by omega, by omega⟩, by show k + 1 ≤ 1000000; omega, hlt, trivial, rfl, trivial, ?_⟩
          rw [show mInc incs k = 1 + pickI (incs.getD (k % incs.length) d_int) 65535 from if_pos (by omega)]
        · have h := of_decide_eq_false h
          rw [hml]
          refine ⟨by omega, hlt, trivial, rfl, trivial, ?_⟩
          rw [show mInc incs k = 1 from if_neg (by omega)]
      · have hge := of_decide_eq_false hge
        have hkl : k = n := by omega
        rw [hkl]
        refine ⟨trivial, ⟨rfl, rfl⟩, fun i hi _ => ⟨fun hlt => ?_, fun hge2 => ?_⟩⟩
        · simp only [Bool.and_eq_true, decide_eq_true_eq] at hlt
          have h1 : i < raw.length := by omega
          have h2 : i < n := by omega
          have eG : List.getD raw (Int.toNat (i : Int)) d_a6 = raw.getD i d_a6 := rfl
          have ok : okA6 (raw.getD i d_a6) := by rw [List.getD_eq_getElem?_getD, List.getElem?_eq_getElem h1]; exact p5 _ (List.getElem_mem h1)
          have eS : mMsgs mb incs raw (i + 1) = mMsgs mb incs raw i ++ [mMsg mb incs raw i] := by unfold mMsgs; rw [List.range_succ, List.map_append]; rfl
          have eI : List.getD (mIncs incs n) (Int.toNat (i : Int)) d_int = mInc incs i := by
            rw [getD_at _ i _ (by rw [hml]; exact h2)]
            simp [mIncs]
          have wi : wrap64 ((i : Int) + 1) = ((i + 1 : Nat) : Int) := by rw [w64 (by omega)]; rfl
          rw [eG, eS, eI, hmm, hml, wi]
          clear eG eS eI wi hge hkl hk
          have q1 : (0 : Int) ≤ (i : Int) ∧ (i : Int) < (raw.length : Int) := ⟨by omega, by omega⟩
          have q2 : (0 : Int) ≤ (i : Int) ∧ (i : Int) < (n : Int) := ⟨by omega, by omega⟩
          have q3 : i < mN mb raw := by rw [hNd]; split <;> omega
          have q4 : i + 1 ≤ 1000000 := by omega
          clear hNd hl hlt h1 h2
          have r5 := pickI_range (raw.getD i d_a6).e 5 (by omega)
          have q5 : pickI (raw.getD i d_a6).e 5 ≤ 4 := by omega
          refine ⟨q1, q1, by decide, ⟨ok.2.2.2.2.1, by decide, by decide⟩, ⟨r5.1, q5⟩, ok, q2, q2, q4, q3, trivial, rfl, trivial, ?_⟩
          rfl
        · simp only [Bool.and_eq_false_iff, decide_eq_false_iff_not] at hge2
          have hiN : i = mN mb raw := by
            revert hi
            rw [hNd]
            split <;> intro hi <;> omega
          have hNl : mN mb raw ≤ 16 := by rw [hNd]; split <;> omega
          refine ⟨by rw [hmm]; omega, ?_⟩
          rw [hiN]
    · cases hg

end Go.Proofs.YtdpoimomipdgjaaDoor.X

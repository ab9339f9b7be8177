/- The law's messages, out of raw numbers. -/
import Derived.Test.YtdpoimomipdgjaaDoorRMsg
namespace Go.Proofs.YtdpoimomipdgjaaDoor.X
open Go Go.RX Go.RowKit Go.Proofs
set_option linter.unusedVariables false
set_option linter.unusedSimpArgs false
def pick04_S : RX.Spec U := fun
  | [⟨false, [.v (.int .i64 c)]⟩, ⟨false, [.v (.int .i64 n)]⟩] => some ⟨some ((in64 c ∧ 0 < n ∧ n ≤ 1000000000)), (.one ⟨false, [.v (.int .i64 (pickI c n))]⟩)⟩
  | _ => none

theorem pick04_ok : ConOk Tryd.prog U GV 54 pick04_S :=
  fn_go gs ty glok conNil Tryd.func54 (by kernel_rfl) fun ds r hg hp => by
    unfold pick04_S at hg
    split at hg
    · rename_i c n
      cases hg
      replace hp : ((in64 c ∧ 0 < n ∧ n ≤ 1000000000)) := hp
      refine ⟨fun _ _ => none, (decide (c < (0 : Int)) = true → n ≠ (0 : Int) ∧ Out.one (U := U) (D.mk false [CV.v (Value.int IntKind.i64 (Int.tmod (wrap64 ((0 : Int) - wrap64 (c + (1 : Int)))) n))]) = Out.one (U := U) (D.mk false [CV.v (Value.int IntKind.i64 (pickI c n))])) ∧ (decide (c < (0 : Int)) = false → n ≠ (0 : Int) ∧ Out.one (U := U) (D.mk false [CV.v (Value.int IntKind.i64 (Int.tmod c n))]) = Out.one (U := U) (D.mk false [CV.v (Value.int IntKind.i64 (pickI c n))])), by kernel_rfl, ?_⟩
      unfold in64 at hp
      refine ⟨fun h => ⟨by omega, ?_⟩, fun h => ⟨by omega, ?_⟩⟩
      · have h' := of_decide_eq_true h
        simp only [Out.one.injEq, Out.tup.injEq, D.mk.injEq, List.cons.injEq, CV.v.injEq, CV.sl.injEq, Value.bool.injEq, Value.int.injEq, Value.string.injEq, and_true, true_and, heq_eq_eq]
        rw [pickI, if_pos h', w64 (x := c + 1) (by omega), w64 (by omega), Int.tmod_eq_emod_of_nonneg (by omega)]
        congr 1; omega
      · have h' := of_decide_eq_false h
        simp only [Out.one.injEq, Out.tup.injEq, D.mk.injEq, List.cons.injEq, CV.v.injEq, CV.sl.injEq, Value.bool.injEq, Value.int.injEq, Value.string.injEq, and_true, true_and, heq_eq_eq]
        rw [pickI, if_neg h', Int.tmod_eq_emod_of_nonneg (by omega)]
    · cases hg

def okA6 (r : A6) : Prop := in64 r.a ∧ in64 r.b ∧ in64 r.c ∧ in64 r.d ∧ in64 r.e ∧ in64 r.f
def msgX (r : A6) : Bool := if (pickI r.b 7 == 6) = true then pickI r.b 2 == 0 else pickI r.b 3 == 0
def msgI (r : A6) : Int := if (pickI r.b 7 == 6) = true then pickI r.a (lim (pickI r.b 2 == 0) + 1) else pickI (pickI r.a 5) (lim (pickI r.b 3 == 0) + 1)
def cut8 (d : ByteArray) : ByteArray := d.extract 0 (Int.toNat (if (8 : Int) < (d.size : Int) then (8 : Int) else (d.size : Int)))
theorem pickI_range (c n : Int) (h : 0 < n) : 0 ≤ pickI c n ∧ pickI c n < n := ⟨Int.emod_nonneg _ (by omega), Int.emod_lt_of_pos _ h⟩
def msgOf (r : A6) (d : ByteArray) : Msg := ⟨msgX r, msgI r, pickI r.c 16, 1 + pickI r.d 65535, 1 + pickI r.e 65535, 1 + pickI r.f 65535, cut8 d⟩
def Message_S : RX.Spec U := fun
  | [⟨true, [.v (.int .i64 a), .v (.int .i64 b), .v (.int .i64 c), .v (.int .i64 d), .v (.int .i64 e), .v (.int .i64 f)]⟩, ⟨false, [.v (.string s)]⟩] => some ⟨some (okA6 ⟨a, b, c, d, e, f⟩), (.one ⟨true, [.v (.bool ((msgOf ⟨a, b, c, d, e, f⟩ s).ext)), .v (.int .i64 ((msgOf ⟨a, b, c, d, e, f⟩ s).id)), .v (.int .i64 ((msgOf ⟨a, b, c, d, e, f⟩ s).sender)), .v (.int .i64 ((msgOf ⟨a, b, c, d, e, f⟩ s).inc)), .v (.int .i64 ((msgOf ⟨a, b, c, d, e, f⟩ s).seq)), .v (.int .i64 ((msgOf ⟨a, b, c, d, e, f⟩ s).number)), .v (.string ((msgOf ⟨a, b, c, d, e, f⟩ s).data))]⟩)⟩
  | _ => none

theorem Message_ok : ConOk Tryd.prog U GV 25 Message_S :=
  fn_go gs ty glok (conCons pick04_ok (conCons Ident_ok conNil)) Tryd.func25 (by kernel_rfl) fun ds r hg hp => by
    unfold Message_S at hg
    split at hg
    · rename_i a b c d e f s
      cases hg
      replace hp : (okA6 ⟨a, b, c, d, e, f⟩) := hp
      refine ⟨fun _ _ => none, ((0 : Int) ≤ (0 : Int) ∧ (0 : Int) < (6 : Int)) ∧ (((-9223372036854775808 : Int) ≤ a ∧ a ≤ (9223372036854775807 : Int)) ∧ (0 : Int) < (5 : Int) ∧ (5 : Int) ≤ (1000000000 : Int)) ∧ ((0 : Int) ≤ (1 : Int) ∧ (1 : Int) < (6 : Int)) ∧ (((-9223372036854775808 : Int) ≤ b ∧ b ≤ (9223372036854775807 : Int)) ∧ (0 : Int) < (3 : Int) ∧ (3 : Int) ≤ (1000000000 : Int)) ∧ ((-9223372036854775808 : Int) ≤ pickI a (5 : Int) ∧ pickI a (5 : Int) ≤ (9223372036854775807 : Int)) ∧ ((0 : Int) ≤ (1 : Int) ∧ (1 : Int) < (6 : Int)) ∧ (((-9223372036854775808 : Int) ≤ b ∧ b ≤ (9223372036854775807 : Int)) ∧ (0 : Int) < (7 : Int) ∧ (7 : Int) ≤ (1000000000 : Int)) ∧ ((pickI b (7 : Int) == (6 : Int)) = true → ((0 : Int) ≤ (0 : Int) ∧ (0 : Int) < (6 : Int)) ∧ ((0 : Int) ≤ (1 : Int) ∧ (1 : Int) < (6 : Int)) ∧ (((-9223372036854775808 : Int) ≤ b ∧ b ≤ (9223372036854775807 : Int)) ∧ (0 : Int) < (2 : Int) ∧ (2 : Int) ≤ (1000000000 : Int)) ∧ ((-9223372036854775808 : Int) ≤ a ∧ a ≤ (9223372036854775807 : Int)) ∧ ((0 : Int) ≤ (2 : Int) ∧ (2 : Int) < (6 : Int)) ∧ (((-9223372036854775808 : Int) ≤ c ∧ c ≤ (9223372036854775807 : Int)) ∧ (0 : Int) < (16 : Int) ∧ (16 : Int) ≤ (1000000000 : Int)) ∧ ((0 : Int) ≤ (3 : Int) ∧ (3 : Int) < (6 : Int)) ∧ (((-9223372036854775808 : Int) ≤ d ∧ d ≤ (9223372036854775807 : Int)) ∧ (0 : Int) < (65535 : Int) ∧ (65535 : Int) ≤ (1000000000 : Int)) ∧ ((0 : Int) ≤ (4 : Int) ∧ (4 : Int) < (6 : Int)) ∧ (((-9223372036854775808 : Int) ≤ e ∧ e ≤ (9223372036854775807 : Int)) ∧ (0 : Int) < (65535 : Int) ∧ (65535 : Int) ≤ (1000000000 : Int)) ∧ ((0 : Int) ≤ (5 : Int) ∧ (5 : Int) < (6 : Int)) ∧ (((-9223372036854775808 : Int) ≤ f ∧ f ≤ (9223372036854775807 : Int)) ∧ (0 : Int) < (65535 : Int) ∧ (65535 : Int) ≤ (1000000000 : Int)) ∧ (((0 : Int) ≤ if (8 : Int) < (↑(ByteArray.size s) : Int) then (8 : Int) else (↑(ByteArray.size s) : Int)) ∧ (if (8 : Int) < (↑(ByteArray.size s) : Int) then (8 : Int) else (↑(ByteArray.size s) : Int)) ≤ (↑(ByteArray.size s) : Int)) ∧ Out.one (U := U) (D.mk true [CV.v (Value.bool (pickI b (2 : Int) == (0 : Int))), CV.v (Value.int IntKind.i64 (pickI a (lim (pickI b (2 : Int) == (0 : Int)) + (1 : Int)))), CV.v (Value.int IntKind.i64 (pickI c (16 : Int))), CV.v (Value.int IntKind.i64 (wrap64 ((1 : Int) + pickI d (65535 : Int)))), CV.v (Value.int IntKind.i64 (wrap64 ((1 : Int) + pickI e (65535 : Int)))), CV.v (Value.int IntKind.i64 (wrap64 ((1 : Int) + pickI f (65535 : Int)))), CV.v (Value.string (ByteArray.extract s (0 : Nat) (Int.toNat (if (8 : Int) < (↑(ByteArray.size s) : Int) then (8 : Int) else (↑(ByteArray.size s) : Int)))))]) = Out.one (U := U) (D.mk true [CV.v (Value.bool (Msg.ext (msgOf (A6.mk a b c d e f) s))), CV.v (Value.int IntKind.i64 (Msg.id (msgOf (A6.mk a b c d e f) s))), CV.v (Value.int IntKind.i64 (Msg.sender (msgOf (A6.mk a b c d e f) s))), CV.v (Value.int IntKind.i64 (Msg.inc (msgOf (A6.mk a b c d e f) s))), CV.v (Value.int IntKind.i64 (Msg.seq (msgOf (A6.mk a b c d e f) s))), CV.v (Value.int IntKind.i64 (Msg.number (msgOf (A6.mk a b c d e f) s))), CV.v (Value.string (Msg.data (msgOf (A6.mk a b c d e f) s)))])) ∧ ((pickI b (7 : Int) == (6 : Int)) = false → ((0 : Int) ≤ (2 : Int) ∧ (2 : Int) < (6 : Int)) ∧ (((-9223372036854775808 : Int) ≤ c ∧ c ≤ (9223372036854775807 : Int)) ∧ (0 : Int) < (16 : Int) ∧ (16 : Int) ≤ (1000000000 : Int)) ∧ ((0 : Int) ≤ (3 : Int) ∧ (3 : Int) < (6 : Int)) ∧ (((-9223372036854775808 : Int) ≤ d ∧ d ≤ (9223372036854775807 : Int)) ∧ (0 : Int) < (65535 : Int) ∧ (65535 : Int) ≤ (1000000000 : Int)) ∧ ((0 : Int) ≤ (4 : Int) ∧ (4 : Int) < (6 : Int)) ∧ (((-9223372036854775808 : Int) ≤ e ∧ e ≤ (9223372036854775807 : Int)) ∧ (0 : Int) < (65535 : Int) ∧ (65535 : Int) ≤ (1000000000 : Int)) ∧ ((0 : Int) ≤ (5 : Int) ∧ (5 : Int) < (6 : Int)) ∧ (((-9223372036854775808 : Int) ≤ f ∧ f ≤ (9223372036854775807 : Int)) ∧ (0 : Int) < (65535 : Int) ∧ (65535 : Int) ≤ (1000000000 : Int)) ∧ (((0 : Int) ≤ if (8 : Int) < (↑(ByteArray.size s) : Int) then (8 : Int) else (↑(ByteArray.size s) : Int)) ∧ (if (8 : Int) < (↑(ByteArray.size s) : Int) then (8 : Int) else (↑(ByteArray.size s) : Int)) ≤ (↑(ByteArray.size s) : Int)) ∧ Out.one (U := U) (D.mk true [CV.v (Value.bool (pickI b (3 : Int) == (0 : Int))), CV.v (Value.int IntKind.i64 (pickI (pickI a (5 : Int)) (lim (pickI b (3 : Int) == (0 : Int)) + (1 : Int)))), CV.v (Value.int IntKind.i64 (pickI c (16 : Int))), CV.v (Value.int IntKind.i64 (wrap64 ((1 : Int) + pickI d (65535 : Int)))), CV.v (Value.int IntKind.i64 (wrap64 ((1 : Int) + pickI e (65535 : Int)))), CV.v (Value.int IntKind.i64 (wrap64 ((1 : Int) + pickI f (65535 : Int)))), CV.v (Value.string (ByteArray.extract s (0 : Nat) (Int.toNat (if (8 : Int) < (↑(ByteArray.size s) : Int) then (8 : Int) else (↑(ByteArray.size s) : Int)))))]) = Out.one (U := U) (D.mk true [CV.v (Value.bool (Msg.ext (msgOf (A6.mk a b c d e f) s))), CV.v (Value.int IntKind.i64 (Msg.id (msgOf (A6.mk a b c d e f) s))), CV.v (Value.int IntKind.i64 (Msg.sender (msgOf (A6.mk a b c d e f) s))), CV.v (Value.int IntKind.i64 (Msg.inc (msgOf (A6.mk a b c d e f) s))), CV.v (Value.int IntKind.i64 (Msg.seq (msgOf (A6.mk a b c d e f) s))), CV.v (Value.int IntKind.i64 (Msg.number (msgOf (A6.mk a b c d e f) s))), CV.v (Value.string (Msg.data (msgOf (A6.mk a b c d e f) s)))])), by kernel_rfl, ?_⟩
      simp only [okA6, in64] at hp
      obtain ⟨h1, h2, h3, h4, h5, h6⟩ := hp
      have m1 : (0 : Int) ≤ (if (8 : Int) < (s.size : Int) then (8 : Int) else (s.size : Int)) ∧ (if (8 : Int) < (s.size : Int) then (8 : Int) else (s.size : Int)) ≤ (s.size : Int) := by split <;> omega
      have r1 := pickI_range a 5 (by omega)
      have r2 := pickI_range d 65535 (by omega)
      have r3 := pickI_range e 65535 (by omega)
      have r4 := pickI_range f 65535 (by omega)
      refine ⟨by omega, by omega, by omega, by omega, by omega, by omega, by omega, fun h => ⟨by omega, by omega, by omega, by omega, by omega, by omega, by omega, by omega, by omega, by omega, by omega, by omega, m1, ?_⟩, fun h => ⟨by omega, by omega, by omega, by omega, by omega, by omega, by omega, by omega, m1, ?_⟩⟩
      · simp only [Out.one.injEq, Out.tup.injEq, D.mk.injEq, List.cons.injEq, CV.v.injEq, CV.sl.injEq, Value.bool.injEq, Value.int.injEq, Value.string.injEq, and_true, true_and, heq_eq_eq]
        rw [w64 (x := 1 + pickI d 65535) (by omega), w64 (x := 1 + pickI e 65535) (by omega), w64 (x := 1 + pickI f 65535) (by omega)]
        simp only [msgOf, msgX, msgI, h, if_true, cut8, and_self]
      · simp only [Out.one.injEq, Out.tup.injEq, D.mk.injEq, List.cons.injEq, CV.v.injEq, CV.sl.injEq, Value.bool.injEq, Value.int.injEq, Value.string.injEq, and_true, true_and, heq_eq_eq]
        rw [w64 (x := 1 + pickI d 65535) (by omega), w64 (x := 1 + pickI e 65535) (by omega), w64 (x := 1 + pickI f 65535) (by omega)]
        simp only [msgOf, msgX, msgI, h, if_false, Bool.false_eq_true, cut8, and_self]
    · cases hg

end Go.Proofs.YtdpoimomipdgjaaDoor.X
